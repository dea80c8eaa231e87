/- The laws' own copies. -/
import Derived.Test.YteoibjacgnmnpaaDat
import Derived.Test.YteoibjacgnmnpaaOwn
import Derived.Deep.LoopGhost
import Derived.Lib.Hide
namespace Go.Proofs.Yteoibjacgnmnpaa.Dat
open Go Go.RowKit Go.Proofs.Yteoibjacgnmnpaa.Mem
set_option linter.unusedVariables false
set_option linter.unusedSimpArgs false
theorem get_exT {α : Type} (l : List α) (k : Nat) (h : k < l.length) : ∃ x, l[k]? = some x := ⟨l[k], List.getElem?_eq_getElem h⟩
theorem part_set {α : Type} (l : List α) (z x : α) (k : Nat) (hx : l[k]? = some x) : (l.take k ++ List.replicate (l.length - k) z).set k x = l.take (k + 1) ++ List.replicate (l.length - (k + 1)) z := by
  have hk : k < l.length := (List.getElem?_eq_some_iff.1 hx).1
  have e : l[k] = x := (List.getElem?_eq_some_iff.1 hx).2
  rw [List.set_append_right _ _ (by rw [List.length_take]; omega), List.length_take, Nat.min_eq_left (by omega), Nat.sub_self]
  obtain ⟨m, hm⟩ : ∃ m, l.length - k = m + 1 := ⟨l.length - k - 1, by omega⟩
  rw [hm, List.replicate_succ, List.set_cons_zero, List.take_succ_eq_append_getElem hk, e, show l.length - (k + 1) = m by omega]
  simp
theorem rep_set (n k : Nat) : (List.replicate n ([] : List Nat)).set k [] = List.replicate n [] := by
  apply List.ext_getElem
  · simp
  · intro j h1 h2
    simp [List.getElem_set]
theorem rep_flat (n : Nat) : (List.replicate n ([] : List Nat)).flatten = [] := by simp
theorem infoIns : (Try.prog.info? 100).map (fun i => (i.zero, i.size, i.bytes)) = some (some (.agg #[.int .i64 0, .int .i64 0]), 2, 16) := by kernel_rfl
theorem toIns (a b : Int) (w : World) : Calls Try.prog 188 #[.agg #[.int .i64 a, .int .i64 b]] w fun e w' => e = .returned (.agg #[.int .i64 a, .int .i64 b]) ∧ Below w.heap.size w w' := by
  go_enter Try.func188, Try.ntmps188
  go_wp2
  refine bodyPost_ret (v := .agg #[.int .i64 a, .int .i64 b]) (by simp [results, Try.results188, go_sem, true_and, *]) rfl ⟨rfl, (by repeat (first | exact Below.refl _ _ | assumption | (refine bl_set ?_ (by dsimp only; omega) _) | refine bl_alloc ?_ _ | refine bl_drewN ?_ _ | refine bl_drew ?_ | refine bl_step ?_ (by assumption)))⟩
theorem zIns_O (w : World) : kIns.O w zIns [.int .i64 0, .int .i64 0] [] := ⟨[.int .i64 0], [.int .i64 0], [], [], rfl, rfl, ⟨rfl, rfl⟩, ⟨rfl, rfl⟩⟩
theorem kIns_O (w : World) (x : DIns) : kIns.O w x [.int .i64 x.op, .int .i64 x.a] [] := ⟨[.int .i64 x.op], [.int .i64 x.a], [], [], rfl, rfl, ⟨rfl, rfl⟩, ⟨rfl, rfl⟩⟩
set_option maxHeartbeats 1000000 in
theorem toInsS (A : Option Addr) (c : Nat) (l : List DIns) (w : World) (hr : kIns.Row w A l.length l) (hm : l.length ≤ 1048576) : Calls Try.prog 175 #[.slice A l.length c] w (NewRow kIns 100 l w) := by
  go_enter Try.func175, Try.ntmps175
  go_wp2_with (refine Knd.wp_made kIns rfl _ _ _ rfl l.length rfl rfl 100 Try.underlying95 (.agg #[.int .i64 0, .int .i64 0]) 16 infoIns rfl (by decide) (by omega) zIns zIns_O (by omega) ?_; rintro g w1 hg ho hb hz; have HG := Lib.hid hg; clear hg)
  go_loopw [4] (fun i wr => ∃ k : Nat, k ≤ l.length ∧ i = .int .i64 k ∧ kIns.OwnF 100 wr (.slice (some ⟨g, 0, none⟩) l.length l.length) (l.take k ++ List.replicate (l.length - k) zIns) (List.replicate l.length []) ∧ Below w.heap.size w wr) (fun i _ => l.length - (intOf i).toNat)
  case atStart => exact ⟨0, by omega, rfl, by simpa using ho, hb⟩
  case round =>
    obtain ⟨k, hk, rfl, ho, hb⟩ := hrel
    by_cases hlt : k < l.length
    · obtain ⟨x, hx⟩ := get_exT l k hlt
      obtain ⟨ad, rfl, q0, q1⟩ := kIns_at (hr.below hb) k x hx
      have hp := part_set l zIns x k hx
      have hle : k < (l.take k ++ List.replicate (l.length - k) zIns).length := by simp; omega
      have hlen : (l.take k ++ List.replicate (l.length - k) zIns).length = l.length := by simp; omega
      obtain ⟨u0, s0⟩ := ho.cell (k * 2) (by rw [hlen]; show _ < l.length * 2; omega)
      obtain ⟨u1, s1⟩ := ho.cell (k * 2 + 1) (by rw [hlen]; show _ < l.length * 2; omega)
      have f0 := ho.free (k * 2)
      have f1 := ho.free (k * 2 + 1)
      have HP := Lib.hid hp
      have HX := Lib.hid hx
      have HL := Lib.hid hlen
      clear hp hx hlen
      go_wp2_with (go_at_call 188; refine (toIns _ _ _).mono ?_; rintro e w' ⟨rfl, hb2⟩; have ho2 := ho.below hb2; obtain ⟨u0, s0⟩ := ho2.cell (k * 2) (by rw [HL.out]; show _ < l.length * 2; omega); obtain ⟨u1, s1⟩ := ho2.cell (k * 2 + 1) (by rw [HL.out]; show _ < l.length * 2; omega); have f0 := ho2.free (k * 2); have f1 := ho2.free (k * 2 + 1))
      go_roundw
      case rel =>
        refine ⟨k + 1, by omega, by go_num, ?_, ?_⟩
        · have h1 := ho2.put k hle [.int .i64 x.op, .int .i64 x.a] x [] (kIns_O _ x) (by simp) (by rw [rep_flat]; simp)
          rw [HP.out, rep_set] at h1
          exact h1
        · have hg0 : w.heap.size ≤ g := Nat.le_of_eq HG.out.symm
          exact (by repeat (first | exact Below.refl _ _ | assumption | (refine bl_set ?_ (by dsimp only; omega) _) | refine bl_alloc ?_ _ | refine bl_drewN ?_ _ | refine bl_drew ?_ | refine bl_step ?_ (by assumption)))
      case measure => simp [intOf]; omega
    · obtain rfl : k = l.length := by omega
      go_wp2
      go_ret
      have h1 := ho.own
      rw [List.take_length, Nat.sub_self, List.replicate_zero, List.append_nil, rep_flat] at h1
      exact ⟨_, _, rfl, h1, by simp [Value.ownBlock], by simp [Value.ownBlock]; rw [HG.out]; exact Nat.le_refl _, hb⟩
theorem toFunc (p q : Int) (A : Option Addr) (c : Nat) (l : List DIns) (w : World) (hr : kIns.Row w A l.length l) (hm : l.length ≤ 1048576) : Calls Try.prog 142 #[.agg #[.int .i64 p, .int .i64 q, .slice A l.length c]] w fun en w' => ∃ v F, en = .returned (.agg #[.int .i64 p, .int .i64 q, v]) ∧ kIns.Own 100 w' v l F ∧ F.Nodup ∧ (∀ g ∈ F, w.heap.size ≤ g) ∧ Below w.heap.size w w' := by
  go_enter Try.func142, Try.ntmps142
  go_wp2_with fail
  refine (toInsS A c l _ ?_ hm).mono ?_
  · exact hr.below (by repeat (first | exact Below.refl _ _ | assumption | (refine bl_set ?_ (by dsimp only; omega) _) | refine bl_alloc ?_ _ | refine bl_drewN ?_ _ | refine bl_drew ?_ | refine bl_step ?_ (by assumption)))
  rintro e w' ⟨v, F, rfl, ho, hnd, hF, hb⟩
  obtain ⟨Av, cv, rfl, _, _⟩ := ho.row
  obtain ⟨hc, hf⟩ := bcell hb
  have hz := hb.size
  simp at hz
  have hF2 : ∀ g ∈ F, w.heap.size + 3 ≤ g := fun g hg => by have := hF g hg; simp at this; omega
  go_wp2
  refine bodyPost_ret (v := .agg #[.int .i64 p, .int .i64 q, .slice Av l.length cv]) (by simp [results, Try.results142, go_sem, *]) rfl ⟨_, F, rfl, ?_, hnd, fun g hg => by have := hF2 g hg; omega, (by repeat (first | exact Below.refl _ _ | assumption | (refine bl_set ?_ (by dsimp only; omega) _) | refine bl_alloc ?_ _ | refine bl_drewN ?_ _ | refine bl_drew ?_ | refine bl_step ?_ (by assumption)))⟩
  repeat (refine Knd.Own.set_old ?_ hF2 (by dsimp only; omega) _)
  exact ho
theorem infoFunc : (Try.prog.info? 97).map (fun i => (i.zero, i.size, i.bytes)) = some (some (.agg #[.int .i64 0, .int .i64 0, .slice none 0 0]), 3, 40) := by kernel_rfl
theorem kFunc_O {w : World} {x : DFunc} {v : Value} {F : List Nat} (h : kIns.Own 100 w v x.code F) : kFunc.O w x [.int .i64 x.params, .int .i64 x.locals, v] F :=
  ⟨[.int .i64 x.params], [.int .i64 x.locals, v], [], F, rfl, rfl, ⟨rfl, rfl⟩, ⟨[.int .i64 x.locals], [v], [], F, rfl, rfl, ⟨rfl, rfl⟩, ⟨v, rfl, h⟩⟩⟩
theorem zFunc_O (w : World) : kFunc.O w zFunc [.int .i64 0, .int .i64 0, .slice none 0 0] [] := kFunc_O (Knd.Own.nil _ _ _)
set_option maxHeartbeats 1000000 in
theorem toFuncS (A : Option Addr) (c : Nat) (l : List DFunc) (w : World) (hr : kFunc.Row w A l.length l) (hm : l.length ≤ 1048576) (hv : ∀ x ∈ l, x.code.length ≤ 1048576) : Calls Try.prog 86 #[.slice A l.length c] w (NewRow kFunc 97 l w) := by
  go_enter Try.func86, Try.ntmps86
  go_wp2_with (refine Knd.wp_made kFunc rfl _ _ _ rfl l.length rfl rfl 97 Try.underlying32 (.agg #[.int .i64 0, .int .i64 0, .slice none 0 0]) 40 infoFunc rfl (by decide) (by omega) zFunc zFunc_O (by omega) ?_; rintro g w1 hg ho hb hz; have HG := Lib.hid hg; clear hg)
  have hg0 : w.heap.size ≤ g := Nat.le_of_eq HG.out.symm
  go_loopw [4] (fun i wr => ∃ (k : Nat) (Fs : List (List Nat)), k ≤ l.length ∧ i = .int .i64 k ∧ kFunc.OwnF 97 wr (.slice (some ⟨g, 0, none⟩) l.length l.length) (l.take k ++ List.replicate (l.length - k) zFunc) Fs ∧ Hid ((g :: Fs.flatten).Nodup ∧ (∀ q ∈ Fs.flatten, w.heap.size ≤ q)) ∧ Below w.heap.size w wr) (fun i _ => l.length - (intOf i).toNat)
  case atStart => exact ⟨0, List.replicate l.length [], by omega, rfl, by simpa using ho, ⟨by simp [rep_flat], by simp [rep_flat]⟩, hb⟩
  case round =>
    obtain ⟨k, Fs, hk, rfl, ho, hN, hb⟩ := hrel
    by_cases hlt : k < l.length
    · obtain ⟨x, hx⟩ := get_exT l k hlt
      obtain ⟨ad, A2, c2, rfl, q0, q1, q2, hl2, hr2⟩ := kFunc_at (hr.below hb) k x hx
      have hxm := hv x (List.mem_of_getElem? hx)
      have hp := part_set l zFunc x k hx
      have hle : k < (l.take k ++ List.replicate (l.length - k) zFunc).length := by simp; omega
      have hlen : (l.take k ++ List.replicate (l.length - k) zFunc).length = l.length := by simp; omega
      have hFl : Fs.length = l.length := ho.len.trans hlen
      have HP := Lib.hid hp
      have HX := Lib.hid hx
      have HL := Lib.hid hlen
      have HF := Lib.hid hFl
      clear hp hx hlen hFl
      have C := toFunc x.params x.locals A2 c2 x.code wr hr2 hxm
      go_wp2_with fail
      refine C.mono ?_
      rintro e w' ⟨v, F, rfl, hov, hnd, hFn, hb2⟩
      obtain ⟨Av, cv, rfl, _, _⟩ := hov.row
      have ho2 := ho.below hb2
      obtain ⟨u0, s0⟩ := ho2.cell (k * 3) (by rw [HL.out]; show _ < l.length * 3; omega)
      obtain ⟨u1, s1⟩ := ho2.cell (k * 3 + 1) (by rw [HL.out]; show _ < l.length * 3; omega)
      obtain ⟨u2, s2⟩ := ho2.cell (k * 3 + 2) (by rw [HL.out]; show _ < l.length * 3; omega)
      have f0 := ho2.free (k * 3)
      have f1 := ho2.free (k * 3 + 1)
      have f2 := ho2.free (k * 3 + 2)
      go_wp2
      go_roundw
      case rel =>
        have hlt2 : ∀ q ∈ g :: Fs.flatten, q < wr.heap.size := fun q hq => ho.lt q (by simpa [Value.ownBlock] using hq)
        have hd : ∀ q ∈ F, q ∉ g :: Fs.flatten := fun q hq hm => by have := hlt2 q hm; have := hFn q hq; omega
        have h1 := ho2.put k hle [.int .i64 x.params, .int .i64 x.locals, .slice Av x.code.length cv] x F (kFunc_O hov) (fun h => hd g h (by simp)) (List.nodup_cons.1 hN.out.1).1
        rw [HP.out] at h1
        refine ⟨k + 1, Fs.set k F, by omega, by go_num, h1, ⟨nodup_put (by rw [HF.out]; exact hlt) hN.out.1 hnd hd, fun q hq => ?_⟩, ?_⟩
        · rcases mem_put (by rw [HF.out]; exact hlt) hq with hq | hq
          · have := hFn q hq
            have := hb.size
            omega
          · exact hN.out.2 q hq
        · exact (by repeat (first | exact Below.refl _ _ | assumption | (refine bl_set ?_ (by dsimp only; omega) _) | refine bl_alloc ?_ _ | refine bl_drewN ?_ _ | refine bl_drew ?_ | refine bl_step ?_ (by assumption)))
      case measure => simp [intOf]; omega
    · obtain rfl : k = l.length := by omega
      go_wp2
      go_ret
      have h1 := ho.own
      rw [List.take_length, Nat.sub_self, List.replicate_zero, List.append_nil] at h1
      exact ⟨_, _, rfl, h1, hN.out.1, fun q hq => by
        rcases List.mem_cons.1 hq with rfl | hq
        · exact hg0
        · exact hN.out.2 q hq, hb⟩
theorem infoStr : (Try.prog.info? 9).map (fun i => (i.zero, i.size, i.bytes)) = some (some (.string (⟨#[]⟩ : ByteArray)), 1, 16) := by kernel_rfl
set_option maxHeartbeats 1000000 in
theorem toStringS (A : Option Addr) (c : Nat) (l : List ByteArray) (w : World) (hr : Knd.str.Row w A l.length l) (hm : l.length ≤ 1048576) : Calls Try.prog 85 #[.slice A l.length c] w (NewRow Knd.str 9 l w) := by
  go_enter Try.func85, Try.ntmps85
  go_wp2_with (refine Knd.wp_made Knd.str rfl _ _ _ rfl l.length rfl rfl 9 Try.underlying31 (.string (⟨#[]⟩ : ByteArray)) 16 infoStr rfl (by decide) (by omega) (⟨#[]⟩ : ByteArray) (fun _ => ⟨rfl, rfl⟩) (by omega) ?_; rintro g w1 hg ho hb hz; have HG := Lib.hid hg; clear hg)
  have hg0 : w.heap.size ≤ g := Nat.le_of_eq HG.out.symm
  go_loopw [4] (fun i wr => ∃ k : Nat, k ≤ l.length ∧ i = .int .i64 k ∧ Knd.str.OwnF 9 wr (.slice (some ⟨g, 0, none⟩) l.length l.length) (l.take k ++ List.replicate (l.length - k) (⟨#[]⟩ : ByteArray)) (List.replicate l.length []) ∧ Below w.heap.size w wr) (fun i _ => l.length - (intOf i).toNat)
  case atStart => exact ⟨0, by omega, rfl, by simpa using ho, hb⟩
  case round =>
    obtain ⟨k, hk, rfl, ho, hb⟩ := hrel
    by_cases hlt : k < l.length
    · obtain ⟨x, hx⟩ := get_exT l k hlt
      obtain ⟨ad, cs, rfl, hK, q⟩ := (hr.below hb).get k x hx
      obtain rfl : cs = [.string x] := hK
      have q0 : wr.cell? (ad.add k) = some (.string x) := by have := q 0 _ rfl; simpa [Knd.str, Knd.scalar] using this
      clear q
      have hp := part_set l (⟨#[]⟩ : ByteArray) x k hx
      have hle : k < (l.take k ++ List.replicate (l.length - k) (⟨#[]⟩ : ByteArray)).length := by simp; omega
      have hlen : (l.take k ++ List.replicate (l.length - k) (⟨#[]⟩ : ByteArray)).length = l.length := by simp; omega
      obtain ⟨u0, s0⟩ := ho.cell k (by rw [hlen]; show _ < l.length * 1; omega)
      have f0 := ho.free k
      have HP := Lib.hid hp
      have HX := Lib.hid hx
      clear hp hx hlen
      go_wp2
      go_roundw
      case rel =>
        refine ⟨k + 1, by omega, by go_num, ?_, (by repeat (first | exact Below.refl _ _ | assumption | (refine bl_set ?_ (by dsimp only; omega) _) | refine bl_alloc ?_ _ | refine bl_drewN ?_ _ | refine bl_drew ?_ | refine bl_step ?_ (by assumption)))⟩
        have h1 := ho.put k hle [.string x] x [] ⟨rfl, rfl⟩ (by simp) (by rw [rep_flat]; simp)
        rw [HP.out, rep_set] at h1
        have e : k * Knd.str.sz = k := Nat.mul_one k
        rw [e] at h1
        exact h1
      case measure => simp [intOf]; omega
    · obtain rfl : k = l.length := by omega
      go_wp2
      go_ret
      have h1 := ho.own
      rw [List.take_length, Nat.sub_self, List.replicate_zero, List.append_nil, rep_flat] at h1
      exact ⟨_, _, rfl, h1, by simp [Value.ownBlock], by simp [Value.ownBlock]; rw [HG.out]; exact Nat.le_refl _, hb⟩
theorem toModule (A B : Option Addr) (c d : Nat) (t : List ByteArray) (l : List DFunc) (w : World) (ht : Knd.str.Row w A t.length t) (hr : kFunc.Row w B l.length l) (htm : t.length ≤ 1048576) (hm : l.length ≤ 1048576) (hv : ∀ x ∈ l, x.code.length ≤ 1048576) :
    Calls Try.prog 32 #[.agg #[.slice A t.length c, .slice B l.length d]] w fun en w' => ∃ v u F G, en = .returned (.agg #[v, u]) ∧ Knd.str.Own 9 w' v t F ∧ kFunc.Own 97 w' u l G ∧ (F ++ G).Nodup ∧ (∀ g ∈ F ++ G, w.heap.size ≤ g) ∧ Below w.heap.size w w' := by
  go_enter Try.func32, Try.ntmps32
  go_wp2_with fail
  refine (toStringS A c t _ (ht.below (by repeat (first | exact Below.refl _ _ | assumption | (refine bl_set ?_ (by dsimp only; omega) _) | refine bl_alloc ?_ _ | refine bl_drewN ?_ _ | refine bl_drew ?_ | refine bl_step ?_ (by assumption)))) htm).mono ?_
  rintro e w1 ⟨v, F, rfl, ho, hnd, hF, hb⟩
  obtain ⟨Av, cv, rfl, _, _⟩ := ho.row
  obtain ⟨hc, hf⟩ := bcell hb
  have hz := hb.size
  simp at hz
  have y0 : w.heap.size < w1.heap.size := by omega
  have y1 : w.heap.size + 1 < w1.heap.size := by omega
  have y2 : w.heap.size + 1 + 1 < w1.heap.size := by omega
  have hF2 : ∀ g ∈ F, w.heap.size + 3 ≤ g := fun g hg => by have := hF g hg; simp at this; omega
  have hW : Below w.heap.size w w1 := (by repeat (first | exact Below.refl _ _ | assumption | (refine bl_set ?_ (by dsimp only; omega) _) | refine bl_alloc ?_ _ | refine bl_drewN ?_ _ | refine bl_drew ?_ | refine bl_step ?_ (by assumption)))
  have hFl := ho.lt
  go_wp2_with fail
  refine (toFuncS B d l _ (hr.below (by repeat (first | exact Below.refl _ _ | assumption | (refine bl_set ?_ (by dsimp only; omega) _) | refine bl_alloc ?_ _ | refine bl_drewN ?_ _ | refine bl_drew ?_ | refine bl_step ?_ (by assumption)))) hm hv).mono ?_
  rintro e w2 ⟨u, G, rfl, ho2, hnd2, hG, hb2⟩
  obtain ⟨Au, cu, rfl, _, _⟩ := ho2.row
  obtain ⟨hc2, hf2⟩ := bcell hb2
  have hz2 := hb2.size
  simp at hz2
  have z0 : w.heap.size < w2.heap.size := by omega
  have z1 : w.heap.size + 1 < w2.heap.size := by omega
  have z2 : w.heap.size + 1 + 1 < w2.heap.size := by omega
  have hG2 : ∀ g ∈ G, w1.heap.size ≤ g := fun g hg => by have := hG g hg; simpa using this
  have hG3 : ∀ g ∈ G, w.heap.size + 3 ≤ g := fun g hg => by have := hG2 g hg; omega
  have ho1 : Knd.str.Own 9 w2 (.slice Av t.length cv) t F := by
    refine Knd.Own.below ?_ hb2
    repeat (refine Knd.Own.set_old ?_ hF2 (by dsimp only; omega) _)
    exact ho
  go_wp2
  refine bodyPost_ret (v := .agg #[.slice Av t.length cv, .slice Au l.length cu]) (by simp [results, Try.results32, go_sem, *]) rfl ⟨_, _, F, G, rfl, ?_, ?_, ?_, fun g hg => ?_, (by repeat (first | exact Below.refl _ _ | assumption | (refine bl_set ?_ (by dsimp only; omega) _) | refine bl_alloc ?_ _ | refine bl_drewN ?_ _ | refine bl_drew ?_ | refine bl_step ?_ (by assumption)))⟩
  · repeat (refine Knd.Own.set_old ?_ hF2 (by dsimp only; omega) _)
    exact ho1
  · repeat (refine Knd.Own.set_old ?_ hG3 (by dsimp only; omega) _)
    exact ho2
  · rw [List.nodup_append]
    exact ⟨hnd, hnd2, fun a ha b hb e => by subst e; have := hFl a ha; have := hG2 a hb; omega⟩
  · rcases List.mem_append.1 hg with hg | hg
    · have := hF2 g hg
      omega
    · have := hG3 g hg
      omega
end Go.Proofs.Yteoibjacgnmnpaa.Dat

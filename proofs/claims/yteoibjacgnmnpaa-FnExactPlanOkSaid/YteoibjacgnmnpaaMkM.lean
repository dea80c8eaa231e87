/- The laws' marks in whole numbers, texts and modules. -/
import Derived.Test.YteoibjacgnmnpaaMkI
import Derived.IntWalk
namespace Go.Proofs.Yteoibjacgnmnpaa.Dat
open Go Go.RowKit Go.Proofs.Yteoibjacgnmnpaa.Mem
set_option linter.unusedVariables false
set_option linter.unusedSimpArgs false
def mkI (k : Int) : List Int → List Int
  | [] => []
  | _ :: bs => k :: mkI (k + 1) bs
theorem mkI_len (k : Int) (bs : List Int) : (mkI k bs).length = bs.length := by
  induction bs generalizing k with
  | nil => rfl
  | cons b bs ih => simp [mkI, ih]
theorem mkI_get (k : Int) (bs : List Int) (j : Nat) (hj : j < bs.length) : (mkI k bs)[j]? = some (k + j) := by
  induction bs generalizing k j with
  | nil => simp at hj
  | cons b bs ih =>
    cases j with
    | zero => simp [mkI]
    | succ j =>
      have := ih (k + 1) j (by simpa using hj)
      simp only [mkI, List.getElem?_cons_succ, this]
      congr 1
      omega
theorem ctL_one {α : Type} (l : List α) : ctL (fun _ => 1) l = l.length := by
  unfold ctL
  induction l with
  | nil => rfl
  | cons x l ih => simp [ih]; omega
def mkStr (k : Int) (_ : ByteArray) : ByteArray := mkText k
set_option maxHeartbeats 4000000 in
set_option maxRecDepth 100000 in
theorem markStr (v : Value) (l : List ByteArray) (k : Int) (F : List Nat) (w : World) (h : Knd.str.Own 9 w v l F) (h0 : 0 ≤ k) (h1 : k + l.length ≤ 1152921504606846976) (h2 : l.length ≤ 1099511627776) : Calls Try.prog 77 #[v, .int .i64 k] w fun e w' => e = .returned (.int .i64 (k + l.length)) ∧ Knd.str.Own 9 w' v (mkL mkStr (fun _ => 1) k l) F ∧ But F w w' := by
  by_cases hn : 0 < l.length
  rotate_left
  · have e : l = [] := List.eq_nil_of_length_eq_zero (by omega)
    subst e
    obtain ⟨A, c, rfl, _, _⟩ := h.row
    go_enter Try.func77, Try.ntmps77
    go_wp2
    go_loopw [1, 5] (fun u i wr => u = .int .i64 k ∧ i = .int .i64 0 ∧ w = wr) (fun _ i _ => 0)
    case atStart => exact ⟨rfl, rfl, rfl⟩
    case round =>
      obtain ⟨rfl, rfl, rfl⟩ := hrel
      go_wp2
      go_ret
      exact ⟨by simp, h, But.refl _ _⟩
  obtain ⟨g, c, rfl, hgF⟩ := own_form h hn
  have hF := Knd.flat_own h
  go_enter Try.func77, Try.ntmps77
  go_wp2
  go_loopw [1, 5] (fun u i wr => ∃ j : Nat, j ≤ l.length ∧ u = .int .i64 (k + j) ∧ i = .int .i64 j ∧ Knd.str.Own 9 wr (.slice (some ⟨g, 0, none⟩) l.length c) (upto mkStr (fun _ => 1) k l j) F ∧ But F w wr) (fun _ i _ => l.length - (intOf i).toNat)
  case atStart => exact ⟨0, by omega, by simp, rfl, by rw [upto_0]; exact h, But.refl _ _⟩
  case round =>
    obtain ⟨j, hj, rfl, rfl, ho, hB⟩ := hrel
    by_cases hlt : j < l.length
    · obtain ⟨x, hx⟩ := get_exU l j hlt
      have hset := upto_set mkStr (fun _ => 1) k l j x hx
      rw [ctL_one, List.length_take, Nat.min_eq_left (by omega)] at hset
      have HS := Lib.hid hset
      have hul : j < (upto mkStr (fun _ => 1) k l j).length := by rw [upto_len]; exact hlt
      have hx2 := upto_get mkStr (fun _ => 1) k l j x hx
      obtain ⟨K, hK⟩ : ∃ K, k + (j : Int) = K := ⟨_, rfl⟩
      have hK0 : 0 ≤ K := by omega
      have hK1 : K ≤ 1152921504606846976 := by omega
      rw [hK]
      have HK := Lib.hid hK
      have HX := Lib.hid hx2
      have HU := Lib.hid hul
      clear hset hx hx2 hul hK
      go_wp2_with fail
      refine (markText K _ (by omega) hK0).mono ?_
      rintro e w' ⟨rfl, hb⟩
      have ho2 := ho.below hb
      have c0 := ho2.cell1 j x HX.out
      have f0 := ho2.free1 j
      have HP := Lib.hid (ho2.put1 j HU.out (mkText K))
      have hB2 : But F w w' := hB.trans (But.of_below hb)
      clear ho ho2 hB
      go_wp2
      go_roundw
      case rel =>
        refine ⟨j + 1, by omega, by rw [← HK.out]; simp; omega, by go_num, ?_, hB2.set (by rw [hF]; simp [Value.ownBlock]) _ _⟩
        rw [← HS.out, HK.out]
        exact HP.out
      case measure => simp [intOf]; omega
    · obtain rfl : j = l.length := by omega
      rw [upto_all] at ho
      go_wp2
      go_ret
      exact ⟨rfl, ho, hB⟩
set_option maxHeartbeats 4000000 in
set_option maxRecDepth 100000 in
theorem markFunc (v : Value) (l : List DFunc) (k : Int) (F : List Nat) (w : World) (h : kFunc.Own 97 w v l F) (hnd : F.Nodup) (h0 : 0 ≤ k) (h1 : k + ctL ctFunc l ≤ 1152921504606846976) (h2 : l.length ≤ 1099511627776) (h3 : ∀ x ∈ l, x.code.length ≤ 1099511627776) : Calls Try.prog 78 #[v, .int .i64 k] w fun e w' => e = .returned (.int .i64 (k + ctL ctFunc l)) ∧ kFunc.Own 97 w' v (mkL mkFunc ctFunc k l) F ∧ But F w w' := by
  by_cases hn : 0 < l.length
  rotate_left
  · have e : l = [] := List.eq_nil_of_length_eq_zero (by omega)
    subst e
    obtain ⟨A, c, rfl, _, _⟩ := h.row
    go_enter Try.func78, Try.ntmps78
    go_wp2
    go_loopw [1, 5] (fun u i wr => u = .int .i64 k ∧ i = .int .i64 0 ∧ w = wr) (fun _ i _ => 0)
    case atStart => exact ⟨rfl, rfl, rfl⟩
    case round =>
      obtain ⟨rfl, rfl, rfl⟩ := hrel
      go_wp2
      go_ret
      exact ⟨by simp [ctL], h, But.refl _ _⟩
  obtain ⟨g, c, Fs, inner, rfl, hFe, hA0⟩ := h.toAt hnd hn
  subst hFe
  clear h hnd
  go_enter Try.func78, Try.ntmps78
  go_wp2
  go_loopw [1, 5] (fun u i wr => ∃ (j : Nat) (inner : List Value), j ≤ l.length ∧ u = .int .i64 (k + ctL ctFunc (l.take j)) ∧ i = .int .i64 j ∧ kFunc.At 97 wr g l.length c (upto mkFunc ctFunc k l j) Fs inner ∧ But (g :: Fs.flatten) w wr) (fun _ i _ => l.length - (intOf i).toNat)
  case atStart => exact ⟨0, inner, by omega, by simp [ctL], rfl, by rw [upto_0]; exact hA0, But.refl _ _⟩
  case round =>
    clear hA0
    obtain ⟨j, inner, hj, rfl, rfl, hA, hB⟩ := hrel
    by_cases hlt : j < l.length
    · obtain ⟨x, hx⟩ := get_exU l j hlt
      have hset := Lib.hid (upto_set mkFunc ctFunc k l j x hx)
      have hct := Lib.hid (ctL_snoc ctFunc l j x hx)
      have hle := ctL_mem ctFunc l j x hx
      have hxc := h3 x (List.mem_of_getElem? hx)
      have hul : j < (upto mkFunc ctFunc k l j).length := by rw [upto_len]; exact hlt
      obtain ⟨Fj, hFj, hO, hc⟩ := hA.elem j x (upto_get mkFunc ctFunc k l j x hx)
      obtain ⟨v2, G2, hseg, hFn, o2⟩ := kFunc_Oi.1 hO
      have hGl : ∀ q ∈ Fj, q ∈ Fs.flatten := fun q hq => List.mem_flatten.2 ⟨Fj, List.mem_of_getElem? hFj, hq⟩
      have hnj : Fj.Nodup := (List.pairwise_flatten.1 (List.nodup_cons.1 hA.nd).2).1 Fj (List.mem_of_getElem? hFj)
      subst hFn
      obtain ⟨K, hK⟩ : ∃ K, k + (ctL ctFunc (l.take j) : Int) = K := ⟨_, rfl⟩
      have hK0 : 0 ≤ K := by omega
      have hK1 : K + ctFunc x ≤ 1152921504606846976 := by omega
      rw [hK]
      have HK := Lib.hid hK
      have HX := Lib.hid hx
      unfold ctFunc at hK1
      have c0 : wr.cell? ⟨g, j * 3, none⟩ = some (.int .i64 x.params) := hc 0 _ (by rw [hseg]; rfl)
      have c1 : wr.cell? ⟨g, j * 3 + 1, none⟩ = some (.int .i64 x.locals) := hc 1 _ (by rw [hseg]; rfl)
      have c2 : wr.cell? ⟨g, j * 3 + 2, none⟩ = some v2 := hc 2 _ (by rw [hseg]; rfl)
      have f0 : wr.frozen? ⟨g, j * 3, none⟩ = false := hA.free _
      have f1 : wr.frozen? ⟨g, j * 3 + 1, none⟩ = false := hA.free _
      have hP1 : kFunc.At 97 (wr.setCell ⟨g, j * 3, none⟩ (.int .i64 K)) g l.length c _ Fs _ := hA.put j 0 hul (by decide) (.int .i64 K) (⟨K, x.locals, x.code⟩ : DFunc) Fj hFj (by rw [hseg]; exact kFunc_Oi.2 ⟨v2, Fj, rfl, rfl, o2⟩)
      have hs1 := (Knd.At.seg_set_same (d := kFunc) inner j 0 (.int .i64 K) (by decide)).trans (congrArg (fun z => z.set 0 (.int .i64 K)) hseg)
      have o2' : kIns.Own 100 (wr.setCell ⟨g, j * 3, none⟩ (.int .i64 K)) v2 x.code Fj := o2.frame (fun q hq => Below.heap_setCell _ _ _ q (fun he => hA.gne q (hGl q hq) he))
      have hP2 : kFunc.At 97 ((wr.setCell ⟨g, j * 3, none⟩ (.int .i64 K)).setCell ⟨g, j * 3 + 1, none⟩ (.int .i64 (K + 1))) g l.length c _ Fs _ := hP1.put j 1 (by rw [List.length_set]; exact hul) (by decide) (.int .i64 (K + 1)) (⟨K, K + 1, x.code⟩ : DFunc) Fj hFj (by rw [hs1]; exact kFunc_Oi.2 ⟨v2, Fj, rfl, rfl, o2'⟩)
      rw [List.set_set] at hP2
      have hs2 := (Knd.At.seg_set_same (d := kFunc) _ j 1 (.int .i64 (K + 1)) (by decide)).trans (congrArg (fun z => z.set 1 (.int .i64 (K + 1))) hs1)
      have o2'' : kIns.Own 100 ((wr.setCell ⟨g, j * 3, none⟩ (.int .i64 K)).setCell ⟨g, j * 3 + 1, none⟩ (.int .i64 (K + 1))) v2 x.code Fj := o2'.frame (fun q hq => Below.heap_setCell _ _ _ q (fun he => hA.gne q (hGl q hq) he))
      have hB2 := Knd.At.but_put (Knd.At.but_put hB (j * 3) (.int .i64 K)) (j * 3 + 1) (.int .i64 (K + 1))
      have C := markIns v2 x.code (K + 1 + 1) Fj _ o2'' hnj (by omega) (by omega) hxc
      have HP := Lib.hid hP2
      have HB := Lib.hid hB2
      have HS := Lib.hid hs2
      have HL := Lib.hid hul
      have HF := Lib.hid hFj
      clear hK hle hO hc hP1 hP2 hs1 hs2 hB hB2 o2 o2' o2'' hA hseg hul hFj hnj
      go_wp2_with fail
      refine C.mono ?_
      rintro e w' ⟨rfl, ho, hBi⟩
      have hT := HP.out.turn j (by rw [List.length_set]; exact HL.out) (⟨K, K + 1, mkL mkIns ctIns (K + 1 + 1) x.code⟩ : DFunc) Fj Fj HF.out (fun q hq => hq) hBi (by rw [HS.out]; exact kFunc_Oi.2 ⟨v2, Fj, rfl, rfl, ho⟩)
      rw [List.set_set] at hT
      have HT := Lib.hid hT
      clear hT ho C
      go_wp2
      go_roundw
      case rel =>
        have hT3 := HT.out
        rw [show (⟨K, K + 1, mkL mkIns ctIns (K + 1 + 1) x.code⟩ : DFunc) = mkFunc (k + ctL ctFunc (l.take j)) x from by rw [HK.out]; rfl, hset.out] at hT3
        exact ⟨j + 1, _, by omega, by rw [hct.out, ← HK.out]; simp [ctFunc]; omega, by go_num, hT3, Knd.At.but_turn HB.out HF.out (fun q hq => hq) hBi⟩
      case measure => simp [intOf]; omega
    · obtain rfl : j = l.length := by omega
      rw [upto_all] at hA
      rw [List.take_length]
      go_wp2
      go_ret
      exact ⟨rfl, hA.own, hB⟩
/-- A module's mark: where it ends, and that it writes into the module's own rows alone. -/
theorem markModule (v u : Value) (t : List ByteArray) (l : List DFunc) (k : Int) (F G : List Nat) (w : World) (ht : Knd.str.Own 9 w v t F) (hl : kFunc.Own 97 w u l G) (hnd : (F ++ G).Nodup) (h0 : 0 ≤ k) (h1 : k + t.length + ctL ctFunc l ≤ 1152921504606846976) (h2 : t.length ≤ 1099511627776) (h3 : l.length ≤ 1099511627776) (h4 : ∀ x ∈ l, x.code.length ≤ 1099511627776) :
    Calls Try.prog 27 #[.agg #[v, u], .int .i64 k] w fun e w' => e = .returned (.int .i64 (k + t.length + ctL ctFunc l)) ∧ Knd.str.Own 9 w' v (mkL mkStr (fun _ => 1) k t) F ∧ kFunc.Own 97 w' u (mkL mkFunc ctFunc (k + t.length) l) G ∧ But (F ++ G) w w' := by
  obtain ⟨hnF, hnG, hFG⟩ := List.nodup_append.1 hnd
  have ht0 := ht.below (bl_alloc (Below.refl w.heap.size w) (.cells #[v, u] 34 (0, 0)))
  have hl0 := hl.below (bl_alloc (Below.refl w.heap.size w) (.cells #[v, u] 34 (0, 0)))
  have hFl := ht.lt
  have hGl := hl.lt
  obtain ⟨Av, cv, rfl, _, _⟩ := ht.row
  obtain ⟨Au, cu, rfl, _, _⟩ := hl.row
  go_enter Try.func27, Try.ntmps27
  go_wp2_with fail
  refine (markStr _ t k F _ ht0 h0 (by omega) h2).mono ?_
  rintro e w1 ⟨rfl, ht1, hB1⟩
  have x0 : w1.heap[w.heap.size]? = some (.cells #[.slice Av t.length cv, .slice Au l.length cu] 34 (0, 0)) := (hB1.block _ (by simp) (fun hm => by have := hFl _ hm; omega)).trans (blk_new w _)
  have m1 : w1.cell? ⟨w.heap.size, 1, none⟩ = some (.slice Au l.length cu) := blk_cell x0 1
  have hl1 : kFunc.Own 97 w1 (.slice Au l.length cu) l G := hl0.frame (fun q hq => hB1.block q (by simp; have := hGl q hq; omega) (fun hm => hFG q hm q hq rfl))
  have ht1' := Lib.hid ht1
  clear ht0 hl0 ht1
  go_wp2_with fail
  refine (markFunc _ l (k + t.length) G _ hl1 hnG (by omega) (by omega) h3 h4).mono ?_
  rintro e w2 ⟨rfl, hl2, hB2⟩
  have ht2 : Knd.str.Own 9 w2 (.slice Av t.length cv) (mkL mkStr (fun _ => 1) k t) F := ht1'.out.frame (fun q hq => hB2.block q (by have := ht1'.out.lt q hq; omega) (fun hm => hFG q hq q hm rfl))
  have hBB : But (F ++ G) w w2 := by
    have b1 : But F w w1 := (But.of_below (bl_alloc (Below.refl _ _) _)).then hB1 (fun q hq => .inl hq)
    exact (b1.mono (fun q hq => List.mem_append_left _ hq)).then hB2 (fun q hq => .inl (List.mem_append_right _ hq))
  have H2 := Lib.hid ht2
  have H3 := Lib.hid hl2
  clear ht2 hl2 hl1 x0 m1
  go_wp2
  go_ret
  exact ⟨rfl, H2.out, H3.out, hBB⟩
end Go.Proofs.Yteoibjacgnmnpaa.Dat

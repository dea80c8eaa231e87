/- Start, in the program. -/
import Derived.Test.YticlknijmnddeaaGreatCat
import Derived.Test.YticlknijmnddeaaGreatArgs
import Derived.Test.YticlknijmnddeaaGreatK4
namespace Go.Proofs.YticlknijmnddeaaGreat.Mem
open Go Go.RowKit
set_option linter.unusedVariables false
set_option linter.unusedSimpArgs false
namespace St
variable {w W W' : World} {L : List Res}
/-- An empty row that is nil. -/
theorem nil_ {α : Type} (d : Knd α) (e : Nat) (h : St w L W) : St w (Res.own d e (.slice none 0 0) [] [] :: L) W := h.new (Below.refl _ _) (Knd.Own.nil _ _ _) (by simp [Res.own]) (by simp [Res.own])
/-- One record, laid as a row. -/
theorem one {α : Type} {d : Knd α} {x : α} {cs : Array Value} {F : List Nat} (e : Nat) (h : St w (Res.agg d x cs.toList F :: L) W) : St w (Res.own d e (.slice (some ⟨W.heap.size, 0, none⟩) 1 1) [x] (W.heap.size :: F) :: L) (W.alloc (.cells cs e (0, 0))) := by
  have hM := (h.made (.cells cs e (0, 0))).pair2
  have hO : d.O (W.alloc (.cells cs e (0, 0))) x cs.toList F := (hM.get 0 rfl).2
  have hl := d.K_len (d.K_of_O hO)
  refine hM.asF 0 rfl (r' := Res.own d e (.slice (some ⟨W.heap.size, 0, none⟩) 1 1) [x] (W.heap.size :: F)) ?_ rfl
  refine ⟨cs.toList, [F], ⟨by simpa using hl, .inr ⟨W.heap.size, 1, cs, rfl, Nat.zero_le _, blk_new W _, Nat.le_refl _, by unfold maxLen; omega, by simpa using hl, ?_⟩⟩, ⟨by simpa using hl, rfl, fun j p Fj hp hF => ?_⟩, by simp [Value.ownBlock]⟩
  · rw [List.length_singleton, Nat.one_mul, ← hl, List.take_length]
  · have hj : j = 0 := by
      have := (List.getElem?_eq_some_iff.1 hp).1
      simp at this
      exact this
    subst hj
    simp at hp hF
    subst hp
    subst hF
    rw [Nat.zero_mul, List.drop_zero, ← hl, List.take_length]
    exact hO
/-- One record of a row written anew, records that own nothing. -/
theorem putK {α : Type} {d : Knd α} {e g n c : Nat} {xs : List α} {F : List Nat} (hE : ∀ w x cs F, d.O w x cs F → F = []) (h : St w L W) (i : Nat) (hi : L[i]? = some (Res.own d e (.slice (some ⟨g, 0, none⟩) n c) xs F)) (k : Nat) (hk : k < xs.length) (us : List Value) (x : α) (hO : d.O W x us []) :
    St w (L.set i (Res.own d e (.slice (some ⟨g, 0, none⟩) n c) (xs.set k x) F)) (setCells g W (k * d.sz) us) := by
  obtain ⟨Fs, hF, rfl⟩ := Knd.Own.fs (h.get i hi)
  have hr : Fs = List.replicate Fs.length [] := by
    obtain ⟨inner, _, hels⟩ := hF
    refine List.eq_replicate_iff.2 ⟨rfl, fun Fj hFj => ?_⟩
    obtain ⟨j, hj⟩ := List.mem_iff_getElem?.1 hFj
    have hl : j < xs.length := by rw [← hels.2.1]; exact (List.getElem?_eq_some_iff.1 hj).1
    exact hE _ _ _ _ (hels.2.2 j _ Fj (List.getElem?_eq_getElem hl) hj)
  have hfl : Fs.flatten = [] := by rw [hr]; simp
  have h1 := (hF.put k hk us x [] hO (by simp) (by rw [hfl]; simp)).own
  have e1 : (Fs.set k []).flatten = Fs.flatten := by
    rw [hfl]
    have : Fs.set k [] = List.replicate Fs.length [] := by
      refine List.eq_replicate_iff.2 ⟨by simp, fun Fj hFj => ?_⟩
      rcases List.mem_or_eq_of_mem_set hFj with hm | hm
      · rw [hr] at hm
        exact (List.mem_replicate.1 hm).2
      · exact hm
    rw [this]
    simp
  rw [e1] at h1
  have hnd := h.nodup i hi
  exact h.upd (r' := Res.own d e (.slice (some ⟨g, 0, none⟩) n c) (xs.set k x) _) i hi (setCells_but (.inl (by simp [Value.ownBlock, Res.own])) us _ _ (But.refl _ _)) h1 (by exact hnd) (fun q hq => .inl hq)
/-- The cells of a row's block. -/
theorem cellK {α : Type} {d : Knd α} {e g n c : Nat} {xs : List α} {F : List Nat} (h : St w L W) (i : Nat) (hi : L[i]? = some (Res.own d e (.slice (some ⟨g, 0, none⟩) n c) xs F)) : (∀ j, j < xs.length * d.sz → ∃ u, W.cell? ⟨g, j, none⟩ = some u) ∧ ∀ j, W.frozen? ⟨g, j, none⟩ = false := by
  obtain ⟨Fs, hF, rfl⟩ := Knd.Own.fs (h.get i hi)
  exact ⟨fun j hj => hF.cell j hj, fun j => hF.free j⟩
end St
end Go.Proofs.YticlknijmnddeaaGreat.Mem
namespace Go.Proofs.YticlknijmnddeaaGreat.Dat
open Go Go.RowKit Go.Proofs.YticlknijmnddeaaGreat.Mem
set_option linter.unusedVariables false
set_option linter.unusedSimpArgs false
/-! ### What Start answers -/
def startB (t : List ByteArray) (l : List DFunc) (args : List DValue) : Bool := isGoodB t l && argsB (l.getD 0 zFunc) l.length args
def locsOf (y : DFunc) (args : List DValue) : List DValue := args ++ List.replicate (y.locals.toNat - args.length) zValue
def startV (t : List ByteArray) (l : List DFunc) (args : List DValue) : DVm := if startB t l args = true then ⟨[⟨0, 0, locsOf (l.getD 0 zFunc) args, []⟩], [], 0, [], 0, 0, zValue, 0⟩ else zVm
theorem loop_len (s : ByteArray) : ∀ (n i : Nat) (r : List UInt8), s.size - i = n → (ByteArray.toList.loop s i r).length = r.length + n
  | 0, i, r, h => by
    rw [ByteArray.toList.loop, if_neg (by omega), List.length_reverse]
    rfl
  | n + 1, i, r, h => by
    rw [ByteArray.toList.loop, if_pos (by omega), loop_len s n (i + 1) _ (by omega), List.length_cons]
    omega
theorem noS_size {s : ByteArray} (h : noS s = true) : s.size = 0 := by
  unfold noS at h
  have h1 : s.toList = [] := List.isEmpty_iff.1 h
  have h2 := loop_len s s.size 0 [] (by omega)
  have h3 : (ByteArray.toList.loop s 0 []).length = 0 := by
    show s.toList.length = 0
    rw [h1]
    rfl
  rw [h3] at h2
  simp at h2
  omega
theorem valB_size {nf nr : Int} {v : DValue} (h : valB nf nr v = true) : v.s.size ≤ 60 := by
  have h0 : noS v.s = true → v.s.size ≤ 60 := by
    intro h
    have := noS_size h
    omega
  unfold valB at h
  repeat' split at h
  all_goals (try simp only [Bool.and_eq_true] at h)
  · exact h0 h.2
  · exact h0 h.2
  · exact h0 h.2
  · have h1 := h.2
    unfold textB at h1
    rw [Bool.and_eq_true, decide_eq_true_eq] at h1
    exact h1.1
  · exact h0 h.2
  · exact h0 h.2
  · cases h
theorem sumC_le {α : Type} (f : α → Nat) (c : Nat) : ∀ l : List α, (∀ x ∈ l, f x ≤ c) → sumOf f l ≤ l.length + c * l.length
  | [], _ => by simp [sumOf]
  | x :: l, h => by
    have h1 := sumC_le f c l (fun y hy => h y (by simp [hy]))
    have h2 := h x (by simp)
    have e : sumOf f (x :: l) = sumOf f l + (f x + 1) := by unfold sumOf; simp; omega
    rw [e, List.length_cons, Nat.mul_add]
    omega
theorem start_fit {t : List ByteArray} {l : List DFunc} {args : List DValue} (h : startB t l args = true) : ∃ y, l[0]? = some y ∧ l.getD 0 zFunc = y ∧ (args.length : Int) = y.params ∧ y.params ≤ y.locals ∧ y.locals ≤ 12 ∧ ∀ v ∈ args, valB l.length 0 v = true := by
  unfold startB at h
  rw [Bool.and_eq_true] at h
  have hf := modFit (isGood_mod h.1)
  obtain ⟨y, hy⟩ : ∃ y, l[0]? = some y := ⟨l[0]'(by have := hf.n1; omega), List.getElem?_eq_getElem _⟩
  have e : l.getD 0 zFunc = y := by rw [List.getD_eq_getElem?_getD, hy]; rfl
  have h2 := h.2
  rw [e] at h2
  unfold argsB at h2
  rw [Bool.and_eq_true, decide_eq_true_eq] at h2
  refine ⟨y, hy, e, h2.1, ?_, ?_, fun v hv => ?_⟩
  · exact (hf.loc y (List.mem_of_getElem? hy)).1
  · exact (hf.loc y (List.mem_of_getElem? hy)).2
  · have h3 := h2.2
    rw [Bool.not_eq_true', List.any_eq_false] at h3
    have := h3 v hv
    simpa using this
theorem startV_ms (t : List ByteArray) (l : List DFunc) (args : List DValue) : msVm (startV t l args) ≤ 1048576 := by
  unfold startV
  by_cases h : startB t l args = true
  · rw [if_pos h]
    obtain ⟨y, hy, e, h1, h2, h3, h4⟩ := start_fit h
    rw [e]
    have hz : ∀ x ∈ locsOf y args, msValue x ≤ 60 := by
      intro x hx
      unfold locsOf at hx
      rcases List.mem_append.1 hx with hx | hx
      · exact valB_size (h4 x hx)
      · rw [(List.mem_replicate.1 hx).2]
        decide
    have hl : (locsOf y args).length ≤ 12 := by
      unfold locsOf
      rw [List.length_append, List.length_replicate]
      omega
    have h5 := sumC_le msValue 60 _ hz
    have e1 : msVm ⟨[⟨0, 0, locsOf y args, []⟩], [], 0, [], 0, 0, zValue, 0⟩ = sumOf msValue (locsOf y args) + 1 := by
      have ez : (⟨#[]⟩ : ByteArray).size = 0 := rfl
      simp [msVm, msFrame, sumOf, msValue, zValue]
      omega
    rw [e1]
    omega
  · rw [if_neg h]
    decide
set_option maxHeartbeats 1000000 in
theorem nilsI (n : Nat) (w : World) (hn : n ≤ 1048576) : Calls Tryz.prog 241 #[.int .i64 n] w (NewRow kValue 41 (List.replicate n zValue) w) := by
  go_enter Tryz.func241, Tryz.ntmps241
  go_wp2_with (refine Knd.wp_made kValue rfl _ _ _ rfl n rfl rfl 41 Tryz.underlying78 (.agg #[.int .i64 0, .int .i64 0, .string (⟨#[]⟩ : ByteArray)]) 32 infoValue rfl (by decide) (by omega) zValue zValue_O (by omega) ?_; rintro g w1 hg ho hb hz; have HG := Lib.hid hg; clear hg)
  go_ret
  have h1 := ho.own
  rw [rep_flat] at h1
  exact ⟨_, _, rfl, h1, by simp [Value.ownBlock], by simp [Value.ownBlock]; rw [HG.out]; exact Nat.le_refl _, hb⟩
set_option maxHeartbeats 4000000 in
set_option maxRecDepth 100000 in
theorem frameOfI (A B D : Option Addr) (c d e0 : Nat) (nt : Nat) (l : List DFunc) (y : DFunc) (args : List DValue) (w : World) (hrB : kFunc.Row w B l.length l) (hy : l[0]? = some y) (hr : kValue.Row w D args.length args) (hn : args.length ≤ 1048576) (h1 : (args.length : Int) ≤ y.locals) (h2 : y.locals ≤ 12) :
    Calls Tryz.prog 187 #[.agg #[.slice A nt c, .slice B l.length d], .int .i64 0, .slice D args.length e0] w (fun en w' => ∃ (v : Value) (F : List Nat), en = .returned (.agg #[.int .i64 0, .int .i64 0, v, .slice none 0 0]) ∧ St w [Res.own kValue 41 v (locsOf y args) F] w') := by
  have hl0 : 0 < l.length := (List.getElem?_eq_some_iff.1 hy).1
  obtain ⟨ad, A2, c2, rfl, q0, q1, q2, _, _⟩ := kFunc_at hrB 0 y hy
  rw [Nat.zero_mul, show ad.add 0 = ad by simp [Addr.add]] at q1
  have hS := ((St.start w).made (.cells #[.slice A nt c, .slice (some ad) l.length d] 37 (0, 0))).madeAt (.cells #[.int .i64 0, .int .i64 0, .slice none 0 0, .slice none 0 0] 107 (0, 0)) (w.heap.size + 1) (by simp)
  have p1 := kept hS.bel q1
  have ew : IntKind.i64.wrap (y.locals - (args.length : Int)) = ((y.locals.toNat - args.length : Nat) : Int) := by
    have := IntWalk.i64_in (y.locals - (args.length : Int)) (by omega)
    omega
  have hk : y.locals.toNat - args.length ≤ 12 := by omega
  have EL := Lib.hid (show locsOf y args = args ++ List.replicate (y.locals.toNat - args.length) zValue from rfl)
  obtain ⟨N, hN⟩ : ∃ N, y.locals.toNat - args.length = N := ⟨_, rfl⟩
  rw [hN] at ew hk EL
  clear q0 q1 q2 hy hN
  go_enter Tryz.func187, Tryz.ntmps187
  go_wp2_with fail
  refine (nilsI N _ (by omega)).mono ?_
  intro e w1 hn1
  obtain ⟨v1, F1, rfl, hS1⟩ := hS.newRow hn1
  obtain ⟨A1, c1, rfl, hc1, hr1⟩ := hS1.row 0 rfl
  rw [List.length_replicate] at hS1 hc1
  clear hS hn1 p1
  have hS := hS1.made (.cells #[.slice D args.length e0, .slice A1 N c1] 78 (0, 0))
  have hr2 := hr1.below (bl_alloc (Below.refl _ _) (.cells #[.slice D args.length e0, .slice A1 N c1] 78 (0, 0)))
  have CC := concat2 w1.heap.size 2 D A1 e0 c1 args (List.replicate N zValue) _ (hS.cell 0 rfl 0) (by rw [List.length_replicate]; exact hS.cell 0 rfl 1) (hr.below hS.bel) hr2 hn (by rw [List.length_replicate]; omega)
  rw [List.length_replicate]
  go_wp2_with fail
  refine CC.mono ?_
  intro e w2 hn2
  obtain ⟨v2, F2, rfl, hS2⟩ := hS.newRow hn2
  obtain ⟨A3, c3, rfl, hc3, hr3⟩ := hS2.row 0 rfl
  clear hS hn2 hr2 CC
  rw [← EL.out] at hS2 ⊢
  have x0 := hS2.cell 3 rfl
  have f0 := hS2.free 3 rfl
  go_wp2
  have hS3 := (((hS2.set 3 rfl 0 (.int .i64 0)).set 3 rfl 1 (.int .i64 0)).set 3 rfl 2 (.slice A3 (locsOf y args).length c3)).set 3 rfl 3 (.slice none 0 0)
  have y0 := hS3.cell 3 rfl 0
  have y1 := hS3.cell 3 rfl 1
  have y2 := hS3.cell 3 rfl 2
  have y3 := hS3.cell 3 rfl 3
  refine bodyPost_ret (v := .agg #[.int .i64 0, .int .i64 0, .slice A3 (locsOf y args).length c3, .slice none 0 0]) (by simp [results, Tryz.results187, go_sem, *]) rfl ?_
  exact ⟨_, F2, rfl, hS3.only 0 rfl⟩
theorem startV_no {t : List ByteArray} {l : List DFunc} {args : List DValue} (h : startB t l args = false) : startV t l args = zVm := by
  unfold startV
  rw [h]
  rfl
theorem startB_no {t : List ByteArray} {l : List DFunc} {args : List DValue} (h : isGoodB t l = false) : startB t l args = false := by
  unfold startB
  rw [h]
  rfl
theorem good_y {t : List ByteArray} {l : List DFunc} (h : isGoodB t l = true) : ∃ y, l[0]? = some y ∧ l.getD 0 zFunc = y := by
  have hf := modFit (isGood_mod h)
  refine ⟨l[0]'(by have := hf.n1; omega), List.getElem?_eq_getElem _, ?_⟩
  rw [List.getD_eq_getElem?_getD, List.getElem?_eq_getElem (by have := hf.n1; omega)]
  rfl
set_option maxHeartbeats 8000000 in
set_option maxRecDepth 100000 in
theorem startI (A B D : Option Addr) (c d e0 : Nat) (t : List ByteArray) (l : List DFunc) (args : List DValue) (w : World) (h : HasMod A B t l w) (hr : kValue.Row w D args.length args) (hm : args.length ≤ 1048576 ∧ ∀ y ∈ args, MValue y) {X : DVm} (hX : startV t l args = X) :
    Calls Tryz.prog 116 #[.agg #[.slice A t.length c, .slice B l.length d], .slice D args.length e0] w (fun en w' => ∃ (v0 v1 v3 : Value) (F0 F1 F3 : List Nat), en = .returned (.tuple #[.agg #[v0, v1, .int .i64 X.made, v3, .int .i64 X.status, .int .i64 X.trap, .int .i64 X.value.k, .int .i64 X.value.n, .string X.value.s, .int .i64 X.steps], .bool (startB t l args)]) ∧ St w [Res.own kFrame 107 v0 X.frames F0, Res.own kRec 110 v1 X.heap F1, Res.own Knd.str 9 v3 X.out F3] w') := by
  have hS := ((St.start w).made (.cells #[.slice A t.length c, .slice B l.length d] 37 (0, 0))).madeAt (.cells #[.slice none 0 0, .slice none 0 0, .int .i64 0, .slice none 0 0, .int .i64 0, .int .i64 0, .int .i64 0, .int .i64 0, .string (⟨#[]⟩ : ByteArray), .int .i64 0] 43 (0, 0)) (w.heap.size + 1) (by simp)
  cases hg : isGoodB t l
  · have ES := Lib.hid (startB_no (args := args) hg)
    obtain rfl : X = zVm := by rw [← hX, startV_no ES.out]
    have HG := Lib.hid hg
    clear hg hX
    go_enter Tryz.func116, Tryz.ntmps116
    go_wp2_with fail
    refine (isGoodI A B c d t l _ (h.below hS.bel) HG.out).mono ?_
    rintro e w1 ⟨rfl, hb⟩
    replace hS := hS.step hb
    have x0 := hS.cell 0 rfl
    have f0 := hS.free 0 rfl
    go_wp2
    have hS2 := ((((((((((hS.set 0 rfl 0 (.slice none 0 0)).set 0 rfl 1 (.slice none 0 0)).set 0 rfl 2 (.int .i64 0)).set 0 rfl 3 (.slice none 0 0)).set 0 rfl 4 (.int .i64 0)).set 0 rfl 5 (.int .i64 0)).set 0 rfl 6 (.int .i64 0)).set 0 rfl 7 (.int .i64 0)).set 0 rfl 8 (.string (⟨#[]⟩ : ByteArray))).set 0 rfl 9 (.int .i64 0))
    have y0 := hS2.cell 0 rfl 0
    have y1 := hS2.cell 0 rfl 1
    have y2 := hS2.cell 0 rfl 2
    have y3 := hS2.cell 0 rfl 3
    have y4 := hS2.cell 0 rfl 4
    have y5 := hS2.cell 0 rfl 5
    have y6 := hS2.cell 0 rfl 6
    have y7 := hS2.cell 0 rfl 7
    have y8 := hS2.cell 0 rfl 8
    have y9 := hS2.cell 0 rfl 9
    refine bodyPost_ret (v := .tuple #[.agg #[.slice none 0 0, .slice none 0 0, .int .i64 0, .slice none 0 0, .int .i64 0, .int .i64 0, .int .i64 0, .int .i64 0, .string (⟨#[]⟩ : ByteArray), .int .i64 0], .bool false]) (by simp [results, Tryz.results116, go_sem, *]) rfl ?_
    exact ⟨_, _, _, [], [], [], by rw [ES.out]; rfl, (((hS2.drop.drop).nil_ Knd.str 9).nil_ kRec 110).nil_ kFrame 107⟩
  obtain ⟨y, hy, ey⟩ := good_y hg
  have HG := Lib.hid hg
  have hms : ∀ x ∈ args, x.s.size ≤ maxLen := fun x hx => Nat.le_trans (hm.2 x hx) (by unfold maxLen; omega)
  cases ha : argsB y l.length args
  · have ES := Lib.hid (show startB t l args = false by unfold startB; rw [ey, ha, Bool.and_false])
    obtain rfl : X = zVm := by rw [← hX, startV_no ES.out]
    have HA := Lib.hid ha
    have HY := Lib.hid hy
    clear hg hX ha hy ey
    go_enter Tryz.func116, Tryz.ntmps116
    go_wp2_with fail
    refine (isGoodI A B c d t l _ (h.below hS.bel) HG.out).mono ?_
    rintro e w1 ⟨rfl, hb⟩
    replace hS := hS.step hb
    clear hb
    have x1 := hS.cell 1 rfl
    go_wp2_with fail
    refine (argsI A B D c d e0 t l y args _ (h.below hS.bel) HY.out (hr.below hS.bel) hm.1 hms).mono ?_
    rintro e w2 ⟨rfl, hb⟩
    rw [HA.out]
    replace hS := hS.step hb
    clear hb x1
    have x0 := hS.cell 0 rfl
    have f0 := hS.free 0 rfl
    go_wp2
    have hS2 := ((((((((((hS.set 0 rfl 0 (.slice none 0 0)).set 0 rfl 1 (.slice none 0 0)).set 0 rfl 2 (.int .i64 0)).set 0 rfl 3 (.slice none 0 0)).set 0 rfl 4 (.int .i64 0)).set 0 rfl 5 (.int .i64 0)).set 0 rfl 6 (.int .i64 0)).set 0 rfl 7 (.int .i64 0)).set 0 rfl 8 (.string (⟨#[]⟩ : ByteArray))).set 0 rfl 9 (.int .i64 0))
    have y0 := hS2.cell 0 rfl 0
    have y1 := hS2.cell 0 rfl 1
    have y2 := hS2.cell 0 rfl 2
    have y3 := hS2.cell 0 rfl 3
    have y4 := hS2.cell 0 rfl 4
    have y5 := hS2.cell 0 rfl 5
    have y6 := hS2.cell 0 rfl 6
    have y7 := hS2.cell 0 rfl 7
    have y8 := hS2.cell 0 rfl 8
    have y9 := hS2.cell 0 rfl 9
    refine bodyPost_ret (v := .tuple #[.agg #[.slice none 0 0, .slice none 0 0, .int .i64 0, .slice none 0 0, .int .i64 0, .int .i64 0, .int .i64 0, .int .i64 0, .string (⟨#[]⟩ : ByteArray), .int .i64 0], .bool false]) (by simp [results, Tryz.results116, go_sem, *]) rfl ?_
    exact ⟨_, _, _, [], [], [], by rw [ES.out]; rfl, (((hS2.drop.drop).nil_ Knd.str 9).nil_ kRec 110).nil_ kFrame 107⟩
  have ES := Lib.hid (show startB t l args = true by unfold startB; rw [ey, ha, hg]; rfl)
  obtain rfl : X = ⟨[⟨0, 0, locsOf y args, []⟩], [], 0, [], 0, 0, zValue, 0⟩ := by rw [← hX]; unfold startV; rw [if_pos ES.out, ey]
  obtain ⟨y', hy', ey', k1, k2, k3, k4⟩ := start_fit ES.out
  obtain rfl : y' = y := by rw [← ey', ey]
  have HA := Lib.hid ha
  have HY := Lib.hid hy
  have K1 := Lib.hid (show (args.length : Int) ≤ y'.locals by omega)
  have K3 := Lib.hid k3
  clear hg hX ha hy ey hy' ey' k1 k2 k3 k4
  go_enter Tryz.func116, Tryz.ntmps116
  go_wp2_with fail
  refine (isGoodI A B c d t l _ (h.below hS.bel) HG.out).mono ?_
  rintro e w1 ⟨rfl, hb⟩
  replace hS := hS.step hb
  clear hb
  have x1 := hS.cell 1 rfl
  go_wp2_with fail
  refine (argsI A B D c d e0 t l y' args _ (h.below hS.bel) HY.out (hr.below hS.bel) hm.1 hms).mono ?_
  rintro e w2 ⟨rfl, hb⟩
  rw [HA.out]
  replace hS := hS.step hb
  clear hb x1
  have x1 := hS.cell 1 rfl
  go_wp2_with fail
  refine (frameOfI A B D c d e0 t.length l y' args _ (h.below hS.bel).hr HY.out (hr.below hS.bel) hm.1 K1.out K3.out).mono ?_
  rintro e w3 ⟨v, F, rfl, hS3⟩
  obtain ⟨Av, cv, rfl, _, _⟩ := hS3.row 0 rfl
  replace hS := hS.join hS3
  clear hS3 x1
  have x1 := hS.cell 1 rfl
  have f1 := hS.free 1 rfl
  replace hS := (hS.asF 0 rfl (r' := Res.agg kFrame ⟨0, 0, locsOf y' args, []⟩ (#[.int .i64 0, .int .i64 0, .slice Av (locsOf y' args).length cv, .slice none 0 0] : Array Value).toList F) (kFrame_Oi.2 ⟨_, .slice none 0 0, F, [], rfl, by simp, hS.get 0 rfl, Knd.Own.nil _ _ _⟩) rfl).one 107
  have x1 := hS.cell 1 rfl
  have f1 := hS.free 1 rfl
  obtain ⟨W9, hW9⟩ : ∃ W9 : World, W9 = w3 := ⟨_, rfl⟩
  subst hW9
  go_wp2
  have hS2 := ((((((((((hS.set 1 rfl 0 (.slice (some ⟨W9.heap.size, 0, none⟩) 1 1)).set 1 rfl 1 (.slice none 0 0)).set 1 rfl 2 (.int .i64 0)).set 1 rfl 3 (.slice none 0 0)).set 1 rfl 4 (.int .i64 0)).set 1 rfl 5 (.int .i64 0)).set 1 rfl 6 (.int .i64 0)).set 1 rfl 7 (.int .i64 0)).set 1 rfl 8 (.string (⟨#[]⟩ : ByteArray))).set 1 rfl 9 (.int .i64 0))
  have y0 := hS2.cell 1 rfl 0
  have y1 := hS2.cell 1 rfl 1
  have y2 := hS2.cell 1 rfl 2
  have y3 := hS2.cell 1 rfl 3
  have y4 := hS2.cell 1 rfl 4
  have y5 := hS2.cell 1 rfl 5
  have y6 := hS2.cell 1 rfl 6
  have y7 := hS2.cell 1 rfl 7
  have y8 := hS2.cell 1 rfl 8
  have y9 := hS2.cell 1 rfl 9
  refine bodyPost_ret (v := .tuple #[.agg #[.slice (some ⟨W9.heap.size, 0, none⟩) 1 1, .slice none 0 0, .int .i64 0, .slice none 0 0, .int .i64 0, .int .i64 0, .int .i64 0, .int .i64 0, .string (⟨#[]⟩ : ByteArray), .int .i64 0], .bool true]) (by simp [results, Tryz.results116, go_sem, *]) rfl ?_
  exact ⟨_, _, _, _, [], [], by rw [ES.out]; rfl, ((((hS2.only 0 rfl).nil_ Knd.str 9).nil_ kRec 110).perm (List.perm_append_comm (l₁ := [_, _]) (l₂ := [_])))⟩
end Go.Proofs.YticlknijmnddeaaGreat.Dat

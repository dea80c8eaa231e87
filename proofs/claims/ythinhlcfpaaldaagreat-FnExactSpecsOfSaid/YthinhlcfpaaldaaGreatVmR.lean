/- VmOk in the reference. -/
import Derived.Test.YthinhlcfpaaldaaGreatVm3
namespace Go.Proofs.YthinhlcfpaaldaaGreat.Dat
open Go Go.RowKit Go.Proofs.YthinhlcfpaaldaaGreat.Mem
set_option linter.unusedVariables false
set_option linter.unusedSimpArgs false
def recOkB (nf nr : Int) (r : DRec) : Bool := decide ((r.fields.length : Int) ≤ 6) && r.fields.all (valB nf nr)
theorem rec_all (nf nr : Int) (h : List DRec) : h.all (recOkB nf nr) = (!(h.any (fun r => decide (6 < r.fields.length))) && hpvB nf nr h) := by
  unfold hpvB
  induction h with
  | nil => rfl
  | cons x h ih =>
    simp only [List.all_cons, List.any_cons, ih, recOkB]
    have e : decide ((x.fields.length : Int) ≤ 6) = !(decide (6 < x.fields.length)) := by rw [Bool.eq_iff_iff]; simp; omega
    rw [e]
    cases decide (6 < x.fields.length) <;> cases x.fields.all (valB nf nr) <;> simp
def frm3At (l : List DFunc) (nr : Nat) (fs : List DFrame) (k : Nat) : Bool := match fs[k]? with
  | none => true
  | some f => frm3B l f nr (decide (k + 1 = fs.length))
theorem frm3At_of {l : List DFunc} {nr : Nat} {fs : List DFrame} {k : Nat} {f : DFrame} (hf : fs[k]? = some f) : frm3At l nr fs k = frm3B l f nr (decide (k + 1 = fs.length)) := by
  unfold frm3At
  rw [hf]
theorem range_get {α : Type} (p : α → Bool) (l : List α) : l.all p = (List.range l.length).all (fun k => match l[k]? with | none => true | some x => p x) := by
  rw [Bool.eq_iff_iff, List.all_eq_true, List.all_eq_true]
  constructor
  · intro h k hk
    obtain ⟨x, hx⟩ := get_exU l k (List.mem_range.1 hk)
    simp only [hx]
    exact h x (List.mem_of_getElem? hx)
  · intro h x hx
    obtain ⟨k, hk⟩ := List.mem_iff_getElem?.1 hx
    have := h k (List.mem_range.2 (List.getElem?_eq_some_iff.1 hk).1)
    simpa only [hk] using this
theorem all_and {α : Type} (p q : α → Bool) (l : List α) : (l.all p && l.all q) = l.all (fun x => p x && q x) := by
  induction l with
  | nil => rfl
  | cons x l ih =>
    simp only [List.all_cons, ← ih]
    cases p x <;> cases q x <;> simp
theorem frm3_all (l : List DFunc) (nr : Nat) (fs : List DFrame) : (frvB l.length nr fs && frmsB l fs) = (List.range fs.length).all (frm3At l nr fs) := by
  unfold frvB frmsB
  rw [range_get, all_and]
  congr 1
  funext k
  unfold frm3At frmAt
  cases fs[k]? with
  | none => rfl
  | some f =>
    simp only [frm3B]
    exact Bool.and_comm _ _
def preB (l : List DFunc) (v : DVm) : Bool := decide ((v.heap.length : Int) ≤ 120) && (btw v.made (v.heap.length : Int) 120 && (decide ((v.out.length : Int) ≤ 200) && (btw v.steps 0 50000 && valB l.length v.heap.length v.value)))
theorem vmB_pre {l : List DFunc} {v : DVm} (h : preB l v = false) : vmB l v = false := by
  unfold preB at h
  unfold vmB numsB recsB valsB
  revert h
  cases decide ((v.heap.length : Int) ≤ 120) <;> cases btw v.made (v.heap.length : Int) 120 <;> cases decide ((v.out.length : Int) ≤ 200) <;> cases btw v.steps 0 50000 <;> cases valB l.length v.heap.length v.value <;> simp
theorem vmB_rest {l : List DFunc} {v : DVm} (h : preB l v = true) : vmB l v = (v.heap.all (recOkB l.length v.heap.length) && (outsB v && ((frvB l.length v.heap.length v.frames && frmsB l v.frames) && statB v))) := by
  unfold preB at h
  simp only [Bool.and_eq_true] at h
  obtain ⟨h1, h2, h3, h4, h5⟩ := h
  rw [rec_all]
  unfold vmB numsB recsB valsB
  rw [h1, h2, h3, h4, h5]
  cases (v.heap.any fun r => decide (6 < r.fields.length)) <;> cases hpvB l.length v.heap.length v.heap <;> cases outsB v <;> cases frvB l.length v.heap.length v.frames <;> cases frmsB l v.frames <;> cases statB v <;> rfl
theorem stat_done {l : List DFunc} {v : DVm} (h : v.status = 1) : ((frvB l.length v.heap.length v.frames && frmsB l v.frames) && statB v) = (decide (v.frames.length = 0) && decide (v.trap = 0)) := by
  have e : statB v = (decide (v.frames.length = 0) && decide (v.trap = 0)) := by unfold statB; rw [h]; rfl
  rw [e]
  by_cases h0 : v.frames.length = 0
  · have h1 := List.eq_nil_of_length_eq_zero h0
    rw [h1]
    rfl
  · rw [decide_eq_false h0, Bool.false_and, Bool.and_false]
def headB (v : DVm) : Bool := (decide (v.status = 0) || decide (v.status = 2)) && (nilV v.value && btw (v.frames.length : Int) 1 24)
def trapB (v : DVm) : Bool := if v.status = 0 then decide (v.trap = 0) else btw v.trap 1 8
theorem stat_head {v : DVm} (h : ¬ v.status = 1) : statB v = (headB v && trapB v) := by
  unfold statB headB trapB manyB
  by_cases h0 : v.status = 0
  · rw [if_pos h0, if_pos h0, decide_eq_true h0]
    cases btw (v.frames.length : Int) 1 24 <;> cases nilV v.value <;> simp
  · rw [if_neg h0, if_neg h0, decide_eq_false h0]
    by_cases h2 : v.status = 2
    · rw [if_pos h2, decide_eq_true h2]
      cases btw (v.frames.length : Int) 1 24 <;> cases nilV v.value <;> simp
    · rw [if_neg h2, if_neg h, decide_eq_false h2]
      simp
set_option maxHeartbeats 16000000 in
set_option maxRecDepth 100000 in
theorem vm03 (A B A0 A1 A3 : Option Addr) (c d c0 c1 c3 : Nat) (t : List ByteArray) (l : List DFunc) (v : DVm) (w : World) (h : HasMod A B t l w) (hfit : ModFit t l)
    (r0 : kFrame.Row w A0 v.frames.length v.frames) (r1 : kRec.Row w A1 v.heap.length v.heap) (r3 : Knd.str.Row w A3 v.out.length v.out) (hM : MVm v) :
    Calls Tryz.prog 112 #[.agg #[.slice A t.length c, .slice B l.length d], .agg #[.slice A0 v.frames.length c0, .slice A1 v.heap.length c1, .int .i64 v.made, .slice A3 v.out.length c3, .int .i64 v.status, .int .i64 v.trap, .int .i64 v.value.k, .int .i64 v.value.n, .string v.value.s, .int .i64 v.steps]] w fun e w' => e = .returned (.bool (vmB l v)) ∧ Below w.heap.size w w' := by
  have hm := hfit.n12
  have hm' : l.length ≤ 1048576 := by omega
  have hnf := hM.1.1
  have hnh := hM.2.1.1
  have hno := hM.2.2.1.1
  have hmx : ∀ z : DValue, MValue z → z.s.size ≤ maxLen := fun z h => Nat.le_trans h (by unfold maxLen; omega)
  have hS := ((St.start w).made (.cells #[.slice A t.length c, .slice B l.length d] 36 (0, 0))).madeAt (.cells #[.slice A0 v.frames.length c0, .slice A1 v.heap.length c1, .int .i64 v.made, .slice A3 v.out.length c3, .int .i64 v.status, .int .i64 v.trap, .int .i64 v.value.k, .int .i64 v.value.n, .string v.value.s, .int .i64 v.steps] 67 (0, 0)) (w.heap.size + 1) (by simp)
  cases hp : preB l v
  · have E := Lib.hid (vmB_pre hp)
    go_enter Tryz.func112, Tryz.ntmps112
    go_wp2_with (first | (go_at_call 121; first | ((with_reducible refine (between (r := btw v.made (v.heap.length : Int) 120) _ rfl).mono ?_); rintro e w' ⟨rfl, rfl⟩) | ((with_reducible refine (between (r := btw v.steps 0 50000) _ rfl).mono ?_); rintro e w' ⟨rfl, rfl⟩)) | (go_at_call 183; refine (val3 l.length v.heap.length A B c d t.length l.length v.value _ (hmx _ hM.2.2.2) (by omega) (by omega) (by omega) (by omega) rfl).mono ?_; rintro e w1 ⟨rfl, hb⟩; have hS1 := hS.step hb; have x1 := hS1.cell 0 rfl))
    all_goals first | (go_ret; exact ⟨ret_bool E.out.symm, hS.bel⟩) | (go_ret; exact ⟨ret_bool E.out.symm, hS1.bel⟩) | (exfalso; simp_all [preB]; done) | skip
  have E1 := Lib.hid (vmB_rest hp)
  unfold preB at hp
  simp only [Bool.and_eq_true, decide_eq_true_eq] at hp
  obtain ⟨h1, h2, h3, h4, h5⟩ := hp
  have H1 := Lib.hid h2
  have H2 := Lib.hid h4
  have H3 := Lib.hid h5
  clear h2 h4 h5
  go_enter Tryz.func112, Tryz.ntmps112
  go_wp2_with (first | (go_at_call 121; first | ((with_reducible refine (between _ H1.out).mono ?_); rintro e w' ⟨rfl, rfl⟩) | ((with_reducible refine (between _ H2.out).mono ?_); rintro e w' ⟨rfl, rfl⟩)) | (go_at_call 183; refine (val3 l.length v.heap.length A B c d t.length l.length v.value _ (hmx _ hM.2.2.2) (by omega) (by omega) (by omega) (by omega) rfl).mono ?_; rintro e w1 ⟨rfl, hb⟩; rw [H3.out]; have hS1 := hS.step hb))
  clear hb
  go_loopw [6] (fun i wr => ∃ k : Nat, k ≤ v.heap.length ∧ i = .int .i64 k ∧ Hid ((v.heap.take k).all (recOkB l.length v.heap.length) = true) ∧ St w [Res.box (w.heap.size + 1) (.cells #[.slice A0 v.frames.length c0, .slice A1 v.heap.length c1, .int .i64 v.made, .slice A3 v.out.length c3, .int .i64 v.status, .int .i64 v.trap, .int .i64 v.value.k, .int .i64 v.value.n, .string v.value.s, .int .i64 v.steps] 67 (0, 0)), Res.box w.heap.size (.cells #[.slice A t.length c, .slice B l.length d] 36 (0, 0))] wr) (fun i _ => v.heap.length - (intOf i).toNat)
  case atStart => exact ⟨0, by omega, rfl, Lib.hid (by simp), hS1⟩
  case round =>
    clear hS hS1
    obtain ⟨k, hk, rfl, hb, hS⟩ := hrel
    by_cases hlt : k < v.heap.length
    · obtain ⟨x, hx⟩ := get_exU v.heap k hlt
      have hMx := hM.2.1.2 x (List.mem_of_getElem? hx)
      obtain ⟨ad, A2, c2, rfl, q0', hl2, hr2⟩ := kRec_at r1 k x hx
      rw [Nat.mul_one] at q0'
      have hA := all_snoc (recOkB l.length v.heap.length) v.heap k x hx
      have hSd := hS.drew
      have hyv : ∀ z ∈ x.fields, z.s.size ≤ maxLen := fun z hz => hmx z (hMx.2 z hz)
      have hyl := hMx.1
      by_cases h6 : (x.fields.length : Int) ≤ 6
      rotate_left
      · have E := Lib.hid (E1.out.trans (show _ = false by rw [all_no (p := recOkB l.length v.heap.length) hx (by unfold recOkB; rw [decide_eq_false h6, Bool.false_and]), Bool.false_and]))
        have h6a : ((6 : Int) < (x.fields.length : Int)) = True := eq_true (by omega)
        have h6b : (6 < x.fields.length) = True := eq_true (by omega)
        clear hA hx h6
        go_wp2
        refine wp_region_held_drew (S := (fun w' => w'.cell? ⟨w.heap.size, 0, none⟩ = some (.slice A t.length c) ∧ w'.cell? ⟨w.heap.size, 1, none⟩ = some (.slice B l.length d) ∧ w'.cell? ⟨w.heap.size + 1, 1, none⟩ = some (.slice (some ad) v.heap.length c1) ∧ w'.cell? (ad.add k) = some (.slice A2 x.fields.length c2))) (by kernel_rfl) (⟨hSd.cell 1 rfl 0, hSd.cell 1 rfl 1, hSd.cell 0 rfl 1, kept hSd.bel q0'⟩) (fun hHeld => ?_)
        (iterate 9 (first | refine rQ1 ?_ | refine rQ2 ?_); try simp only [pP])
        refine regS (fun _ _ _ d h => by cases d <;> exact h) [9, 10, 11, 12, 13, 14, 15, 16, 17, 18] _ _ _ rfl (by kernel_rfl) (by assumption) ?_
        simp only [skipL, List.getElem?_cons_zero, List.getElem?_cons_succ, Option.bind_some, pP]
        (first | refine rQ1 ?_ | refine rQ2 ?_); (try simp only [pP])
        refine wpAnyH_done (by kernel_rfl) ?_ _
        clear hHeld
        go_wp2
        go_ret
        exact ⟨ret_bool E.out.symm, hSd.bel⟩
      have h6a : ((6 : Int) < (x.fields.length : Int)) = False := eq_false (by omega)
      have h6b : (6 < x.fields.length) = False := eq_false (by omega)
      cases hv : x.fields.all (valB l.length v.heap.length)
      · have E := Lib.hid (E1.out.trans (show _ = false by rw [all_no (p := recOkB l.length v.heap.length) hx (by unfold recOkB; rw [hv, Bool.and_false]), Bool.false_and]))
        have HV := Lib.hid hv
        clear hA hx hv
        go_wp2
        refine wp_region_held_drew (S := (fun w' => w'.cell? ⟨w.heap.size, 0, none⟩ = some (.slice A t.length c) ∧ w'.cell? ⟨w.heap.size, 1, none⟩ = some (.slice B l.length d) ∧ w'.cell? ⟨w.heap.size + 1, 1, none⟩ = some (.slice (some ad) v.heap.length c1) ∧ w'.cell? (ad.add k) = some (.slice A2 x.fields.length c2))) (by kernel_rfl) (⟨hSd.cell 1 rfl 0, hSd.cell 1 rfl 1, hSd.cell 0 rfl 1, kept hSd.bel q0'⟩) (fun hHeld => ?_)
        (iterate 17 (first | refine rQ1 ?_ | refine rQ2 ?_); try simp only [pP])
        refine regC 17 rfl (by kernel_rfl) (by rfl) (fun Kq hKq => ?_)
        go_simp
        (with_reducible refine (vals3 A B A2 c d c2 t.length l.length v.heap.length x.fields _ (hr2.below hSd.bel) hyv hm' hnh (by omega)).mono ?_)
        rintro e w2 ⟨rfl, hb2⟩; rw [HV.out]; have hS2 := hSd.step hb2; clear hb2
        try go_wp2_with fail
        refine hKq.out _ _ (⟨hS2.cell 1 rfl 0, hS2.cell 1 rfl 1, hS2.cell 0 rfl 1, kept hS2.bel q0'⟩) (fun hHeld => ?_)
        clear hKq Kq
        (try simp only [pP])
        (iterate 2 (first | refine rQ1 ?_ | refine rQ2 ?_); try simp only [pP])
        refine wpAnyH_done (by kernel_rfl) ?_ _
        clear hHeld
        go_wp2
        go_ret
        exact ⟨ret_bool E.out.symm, hS2.bel⟩
      · have HN := Lib.hid (show (v.heap.take (k + 1)).all (recOkB l.length v.heap.length) = true by rw [hA, hb.out]; unfold recOkB; rw [decide_eq_true h6, hv]; rfl)
        have HV := Lib.hid hv
        clear hA hx hv
        go_wp2
        refine wp_region_held_drew (S := (fun w' => w'.cell? ⟨w.heap.size, 0, none⟩ = some (.slice A t.length c) ∧ w'.cell? ⟨w.heap.size, 1, none⟩ = some (.slice B l.length d) ∧ w'.cell? ⟨w.heap.size + 1, 1, none⟩ = some (.slice (some ad) v.heap.length c1) ∧ w'.cell? (ad.add k) = some (.slice A2 x.fields.length c2))) (by kernel_rfl) (⟨hSd.cell 1 rfl 0, hSd.cell 1 rfl 1, hSd.cell 0 rfl 1, kept hSd.bel q0'⟩) (fun hHeld => ?_)
        (iterate 17 (first | refine rQ1 ?_ | refine rQ2 ?_); try simp only [pP])
        refine regC 17 rfl (by kernel_rfl) (by rfl) (fun Kq hKq => ?_)
        go_simp
        (with_reducible refine (vals3 A B A2 c d c2 t.length l.length v.heap.length x.fields _ (hr2.below hSd.bel) hyv hm' hnh (by omega)).mono ?_)
        rintro e w2 ⟨rfl, hb2⟩; rw [HV.out]; have hS2 := hSd.step hb2; clear hb2
        try go_wp2_with fail
        refine hKq.out _ _ (⟨hS2.cell 1 rfl 0, hS2.cell 1 rfl 1, hS2.cell 0 rfl 1, kept hS2.bel q0'⟩) (fun hHeld => ?_)
        clear hKq Kq
        (try simp only [pP])
        (iterate 2 (first | refine rQ1 ?_ | refine rQ2 ?_); try simp only [pP])
        refine wpAnyH_done (by kernel_rfl) ?_ _
        clear hHeld
        go_wp2
        go_roundw
        case rel => exact ⟨k + 1, by omega, by go_num, HN, hS2⟩
        case measure => simp [intOf]; omega
    obtain rfl : k = v.heap.length := by omega
    have E2 := Lib.hid (E1.out.trans (show _ = (outsB v && ((frvB l.length v.heap.length v.frames && frmsB l v.frames) && statB v)) by have := hb.out; rw [List.take_length] at this; rw [this, Bool.true_and]))
    clear hb hlt hk
    go_wp2
    go_loopw [7] (fun i wr => ∃ k : Nat, k ≤ v.out.length ∧ i = .int .i64 k ∧ Hid ((v.out.take k).all textB = true) ∧ St w [Res.box (w.heap.size + 1) (.cells #[.slice A0 v.frames.length c0, .slice A1 v.heap.length c1, .int .i64 v.made, .slice A3 v.out.length c3, .int .i64 v.status, .int .i64 v.trap, .int .i64 v.value.k, .int .i64 v.value.n, .string v.value.s, .int .i64 v.steps] 67 (0, 0)), Res.box w.heap.size (.cells #[.slice A t.length c, .slice B l.length d] 36 (0, 0))] wr) (fun i _ => v.out.length - (intOf i).toNat)
    case atStart => exact ⟨0, by omega, rfl, Lib.hid (by simp), hS⟩
    case round =>
      clear hS
      obtain ⟨k, hk, rfl, hb, hS⟩ := hrel
      have x0 := hS.cell 0 rfl
      by_cases hlt : k < v.out.length
      · obtain ⟨x, hx⟩ := get_exU v.out k hlt
        obtain ⟨ad, rfl, q0'⟩ := r3.one k x hx
        have q0 := kept hS.bel q0'
        have hxs : x.size ≤ maxLen := Nat.le_trans (hM.2.2.1.2 x (List.mem_of_getElem? hx)) (by unfold maxLen; omega)
        have hA := all_snoc textB v.out k x hx
        cases hv : textB x
        · have E := Lib.hid (E2.out.trans (show _ = false by unfold outsB; rw [all_no (p := textB) hx hv, Bool.false_and]))
          have HV := Lib.hid hv
          clear hA hx hv
          go_wp2_with (go_at_call 185; refine (text01 _ _ hxs).mono ?_; rintro e w' ⟨rfl, rfl⟩; rw [HV.out])
          go_ret
          exact ⟨ret_bool E.out.symm, hS.bel⟩
        · have HN := Lib.hid (show (v.out.take (k + 1)).all textB = true by rw [hA, hb.out, hv]; rfl)
          have HV := Lib.hid hv
          clear hA hx hv
          go_wp2_with (go_at_call 185; refine (text01 _ _ hxs).mono ?_; rintro e w' ⟨rfl, rfl⟩; rw [HV.out])
          go_roundw
          case rel => exact ⟨k + 1, by omega, by go_num, HN, hS⟩
          case measure => simp [intOf]; omega
      obtain rfl : k = v.out.length := by omega
      have E3 := E2.out.trans (show _ = ((frvB l.length v.heap.length v.frames && frmsB l v.frames) && statB v) by have := hb.out; rw [List.take_length] at this; unfold outsB; rw [this, Bool.true_and])
      clear hb hlt hk
      have hbel := hS.bel
      by_cases hs1 : v.status = 1
      · have E := Lib.hid (E3.trans (stat_done hs1))
        clear E3
        go_wp2
        all_goals (go_ret; refine ⟨ret_bool ?_, hbel⟩; rw [E.out, Bool.eq_iff_iff]; simp_all)
      have E4 := E3.trans (show _ = ((frvB l.length v.heap.length v.frames && frmsB l v.frames) && (headB v && trapB v)) by rw [stat_head hs1])
      clear E3
      cases hh : (headB v && trapB v)
      · have E := Lib.hid (E4.trans (show _ = false by rw [hh, Bool.and_false]))
        clear E4
        go_wp2_with (go_at_call 121; first | ((with_reducible refine (between (r := btw (v.frames.length : Int) 1 24) _ rfl).mono ?_); rintro e w' ⟨rfl, rfl⟩) | ((with_reducible refine (between (r := btw v.trap 1 8) _ rfl).mono ?_); rintro e w' ⟨rfl, rfl⟩))
        all_goals first | (go_ret; exact ⟨ret_bool E.out.symm, hbel⟩) | (exfalso; simp_all [headB, trapB, nilV, noS]; done)
      have E := Lib.hid (E4.trans (show _ = (List.range v.frames.length).all (frm3At l v.heap.length v.frames) by rw [hh, Bool.and_true, frm3_all]))
      clear E4
      go_wp2_with (go_at_call 121; first | ((with_reducible refine (between (r := btw (v.frames.length : Int) 1 24) _ rfl).mono ?_); rintro e w' ⟨rfl, rfl⟩) | ((with_reducible refine (between (r := btw v.trap 1 8) _ rfl).mono ?_); rintro e w' ⟨rfl, rfl⟩))
      all_goals first | (exfalso; simp_all [headB, trapB, nilV, noS]; done) | skip
      all_goals (try clear hh)
      all_goals first | (have ht2 : (!btw v.trap 1 8) = false := by assumption
                         simp only [ht2]) | skip
      all_goals go_loopw [8] (fun i wr => ∃ k : Nat, k ≤ v.frames.length ∧ i = .int .i64 k ∧ Hid ((List.range k).all (frm3At l v.heap.length v.frames) = true) ∧ St w [Res.box (w.heap.size + 1) (.cells #[.slice A0 v.frames.length c0, .slice A1 v.heap.length c1, .int .i64 v.made, .slice A3 v.out.length c3, .int .i64 v.status, .int .i64 v.trap, .int .i64 v.value.k, .int .i64 v.value.n, .string v.value.s, .int .i64 v.steps] 67 (0, 0)), Res.box w.heap.size (.cells #[.slice A t.length c, .slice B l.length d] 36 (0, 0))] wr) (fun i _ => v.frames.length - (intOf i).toNat)
      case atStart => exact ⟨0, by omega, rfl, Lib.hid (by simp), hS⟩
      case atStart => exact ⟨0, by omega, rfl, Lib.hid (by simp), hS⟩
      case round =>
        clear hS hbel
        obtain ⟨k, hk, rfl, hb, hS⟩ := hrel
        have x0 := hS.cell 0 rfl
        by_cases hlt : k < v.frames.length
        rotate_left
        · obtain rfl : k = v.frames.length := by omega
          have EE := Lib.hid (E.out.trans hb.out)
          go_wp2
          go_ret
          exact ⟨ret_bool EE.out.symm, hS.bel⟩
        obtain ⟨x, hx⟩ := get_exU v.frames k hlt
        have hMx := hM.1.2 x (List.mem_of_getElem? hx)
        obtain ⟨ad, A2, A4, c2, c4, rfl, q0', q1', q2', q3', hl2, hr2, hl4, hr4⟩ := kFrame_at r0 k x hx
        have hA := range_all (P := frm3At l v.heap.length v.frames) k
        rw [frm3At_of hx] at hA
        have hSd := hS.drew
        have ew : IntKind.i64.wrap ((v.frames.length : Int) - 1) = (v.frames.length : Int) - 1 := IntWalk.i64_in _ (by omega)
        have hN0 := frm3At_of (l := l) (nr := v.heap.length) hx
        have hee : decide (k + 1 = v.frames.length) = ((k : Int) == (v.frames.length : Int) - 1) := by rw [Bool.eq_iff_iff]; simp; omega
        rw [hee] at hA hN0
        cases hv : frm3B l x v.heap.length ((k : Int) == (v.frames.length : Int) - 1)
        · have EE := Lib.hid (E.out.trans (show _ = false by rw [List.all_eq_false]; exact ⟨k, List.mem_range.2 hlt, by rw [hN0, hv]; simp⟩))
          have HV := Lib.hid hv
          clear hA hx hv hN0 hee
          go_wp2
          clear x0
          refine wp_region_held_drew (S := (fun w' => w'.cell? ⟨w.heap.size, 0, none⟩ = some (.slice A t.length c) ∧ w'.cell? ⟨w.heap.size, 1, none⟩ = some (.slice B l.length d) ∧ w'.cell? ⟨w.heap.size + 1, 0, none⟩ = some (.slice (some ad) v.frames.length c0) ∧ w'.cell? (ad.add (k * 4)) = some (.int .i64 x.fn) ∧ w'.cell? ⟨(ad.add (k * 4)).block, (ad.add (k * 4)).off + 1, none⟩ = some (.int .i64 x.pc) ∧ w'.cell? ⟨(ad.add (k * 4)).block, (ad.add (k * 4)).off + 2, none⟩ = some (.slice A2 x.locals.length c2) ∧ w'.cell? ⟨(ad.add (k * 4)).block, (ad.add (k * 4)).off + 3, none⟩ = some (.slice A4 x.stack.length c4))) (by kernel_rfl) (⟨hSd.cell 1 rfl 0, hSd.cell 1 rfl 1, hSd.cell 0 rfl 0, kept hSd.bel q0', kept hSd.bel q1', kept hSd.bel q2', kept hSd.bel q3'⟩) (fun hHeld => ?_)
          (iterate 13 (first | refine rQ1 ?_ | refine rQ2 ?_); try simp only [pP])
          refine regC 13 rfl (by kernel_rfl) (by rfl) (fun Kq hKq => ?_)
          go_simp
          (with_reducible refine (frame3 A B A2 A4 c d c2 c4 v.heap.length t l x _ _ (h.below hSd.bel) hfit (hr2.below hSd.bel) (hr4.below hSd.bel) hMx hnh).mono ?_)
          rintro e w2 ⟨rfl, hb2⟩; rw [HV.out]; have hS2 := hSd.step hb2; clear hb2
          try go_wp2_with fail
          refine hKq.out _ _ (⟨hS2.cell 1 rfl 0, hS2.cell 1 rfl 1, hS2.cell 0 rfl 0, kept hS2.bel q0', kept hS2.bel q1', kept hS2.bel q2', kept hS2.bel q3'⟩) (fun hHeld => ?_)
          clear hKq Kq
          (try simp only [pP])
          (first | refine rQ1 ?_ | refine rQ2 ?_); (try simp only [pP])
          refine wpAnyH_done (by kernel_rfl) ?_ _
          clear hHeld
          go_wp2
          go_ret
          exact ⟨ret_bool EE.out.symm, hS2.bel⟩
        · have HN := Lib.hid (show (List.range (k + 1)).all (frm3At l v.heap.length v.frames) = true by rw [hA, hb.out, hv]; rfl)
          have HV := Lib.hid hv
          clear hA hx hv hN0 hee
          go_wp2
          clear x0
          refine wp_region_held_drew (S := (fun w' => w'.cell? ⟨w.heap.size, 0, none⟩ = some (.slice A t.length c) ∧ w'.cell? ⟨w.heap.size, 1, none⟩ = some (.slice B l.length d) ∧ w'.cell? ⟨w.heap.size + 1, 0, none⟩ = some (.slice (some ad) v.frames.length c0) ∧ w'.cell? (ad.add (k * 4)) = some (.int .i64 x.fn) ∧ w'.cell? ⟨(ad.add (k * 4)).block, (ad.add (k * 4)).off + 1, none⟩ = some (.int .i64 x.pc) ∧ w'.cell? ⟨(ad.add (k * 4)).block, (ad.add (k * 4)).off + 2, none⟩ = some (.slice A2 x.locals.length c2) ∧ w'.cell? ⟨(ad.add (k * 4)).block, (ad.add (k * 4)).off + 3, none⟩ = some (.slice A4 x.stack.length c4))) (by kernel_rfl) (⟨hSd.cell 1 rfl 0, hSd.cell 1 rfl 1, hSd.cell 0 rfl 0, kept hSd.bel q0', kept hSd.bel q1', kept hSd.bel q2', kept hSd.bel q3'⟩) (fun hHeld => ?_)
          (iterate 13 (first | refine rQ1 ?_ | refine rQ2 ?_); try simp only [pP])
          refine regC 13 rfl (by kernel_rfl) (by rfl) (fun Kq hKq => ?_)
          go_simp
          (with_reducible refine (frame3 A B A2 A4 c d c2 c4 v.heap.length t l x _ _ (h.below hSd.bel) hfit (hr2.below hSd.bel) (hr4.below hSd.bel) hMx hnh).mono ?_)
          rintro e w2 ⟨rfl, hb2⟩; rw [HV.out]; have hS2 := hSd.step hb2; clear hb2
          try go_wp2_with fail
          refine hKq.out _ _ (⟨hS2.cell 1 rfl 0, hS2.cell 1 rfl 1, hS2.cell 0 rfl 0, kept hS2.bel q0', kept hS2.bel q1', kept hS2.bel q2', kept hS2.bel q3'⟩) (fun hHeld => ?_)
          clear hKq Kq
          (try simp only [pP])
          (first | refine rQ1 ?_ | refine rQ2 ?_); (try simp only [pP])
          refine wpAnyH_done (by kernel_rfl) ?_ _
          clear hHeld
          go_wp2
          go_roundw
          case rel => exact ⟨k + 1, by omega, by go_num, HN, hS2⟩
          case measure => simp [intOf]; omega
      case round =>
        clear hS hbel
        obtain ⟨k, hk, rfl, hb, hS⟩ := hrel
        have x0 := hS.cell 0 rfl
        by_cases hlt : k < v.frames.length
        rotate_left
        · obtain rfl : k = v.frames.length := by omega
          have EE := Lib.hid (E.out.trans hb.out)
          go_wp2
          go_ret
          exact ⟨ret_bool EE.out.symm, hS.bel⟩
        obtain ⟨x, hx⟩ := get_exU v.frames k hlt
        have hMx := hM.1.2 x (List.mem_of_getElem? hx)
        obtain ⟨ad, A2, A4, c2, c4, rfl, q0', q1', q2', q3', hl2, hr2, hl4, hr4⟩ := kFrame_at r0 k x hx
        have hA := range_all (P := frm3At l v.heap.length v.frames) k
        rw [frm3At_of hx] at hA
        have hSd := hS.drew
        have ew : IntKind.i64.wrap ((v.frames.length : Int) - 1) = (v.frames.length : Int) - 1 := IntWalk.i64_in _ (by omega)
        have hN0 := frm3At_of (l := l) (nr := v.heap.length) hx
        have hee : decide (k + 1 = v.frames.length) = ((k : Int) == (v.frames.length : Int) - 1) := by rw [Bool.eq_iff_iff]; simp; omega
        rw [hee] at hA hN0
        cases hv : frm3B l x v.heap.length ((k : Int) == (v.frames.length : Int) - 1)
        · have EE := Lib.hid (E.out.trans (show _ = false by rw [List.all_eq_false]; exact ⟨k, List.mem_range.2 hlt, by rw [hN0, hv]; simp⟩))
          have HV := Lib.hid hv
          clear hA hx hv hN0 hee
          go_wp2
          clear x0
          refine wp_region_held_drew (S := (fun w' => w'.cell? ⟨w.heap.size, 0, none⟩ = some (.slice A t.length c) ∧ w'.cell? ⟨w.heap.size, 1, none⟩ = some (.slice B l.length d) ∧ w'.cell? ⟨w.heap.size + 1, 0, none⟩ = some (.slice (some ad) v.frames.length c0) ∧ w'.cell? (ad.add (k * 4)) = some (.int .i64 x.fn) ∧ w'.cell? ⟨(ad.add (k * 4)).block, (ad.add (k * 4)).off + 1, none⟩ = some (.int .i64 x.pc) ∧ w'.cell? ⟨(ad.add (k * 4)).block, (ad.add (k * 4)).off + 2, none⟩ = some (.slice A2 x.locals.length c2) ∧ w'.cell? ⟨(ad.add (k * 4)).block, (ad.add (k * 4)).off + 3, none⟩ = some (.slice A4 x.stack.length c4))) (by kernel_rfl) (⟨hSd.cell 1 rfl 0, hSd.cell 1 rfl 1, hSd.cell 0 rfl 0, kept hSd.bel q0', kept hSd.bel q1', kept hSd.bel q2', kept hSd.bel q3'⟩) (fun hHeld => ?_)
          (iterate 13 (first | refine rQ1 ?_ | refine rQ2 ?_); try simp only [pP])
          refine regC 13 rfl (by kernel_rfl) (by rfl) (fun Kq hKq => ?_)
          go_simp
          (with_reducible refine (frame3 A B A2 A4 c d c2 c4 v.heap.length t l x _ _ (h.below hSd.bel) hfit (hr2.below hSd.bel) (hr4.below hSd.bel) hMx hnh).mono ?_)
          rintro e w2 ⟨rfl, hb2⟩; rw [HV.out]; have hS2 := hSd.step hb2; clear hb2
          try go_wp2_with fail
          refine hKq.out _ _ (⟨hS2.cell 1 rfl 0, hS2.cell 1 rfl 1, hS2.cell 0 rfl 0, kept hS2.bel q0', kept hS2.bel q1', kept hS2.bel q2', kept hS2.bel q3'⟩) (fun hHeld => ?_)
          clear hKq Kq
          (try simp only [pP])
          (first | refine rQ1 ?_ | refine rQ2 ?_); (try simp only [pP])
          refine wpAnyH_done (by kernel_rfl) ?_ _
          clear hHeld
          go_wp2
          go_ret
          exact ⟨ret_bool EE.out.symm, hS2.bel⟩
        · have HN := Lib.hid (show (List.range (k + 1)).all (frm3At l v.heap.length v.frames) = true by rw [hA, hb.out, hv]; rfl)
          have HV := Lib.hid hv
          clear hA hx hv hN0 hee
          go_wp2
          clear x0
          refine wp_region_held_drew (S := (fun w' => w'.cell? ⟨w.heap.size, 0, none⟩ = some (.slice A t.length c) ∧ w'.cell? ⟨w.heap.size, 1, none⟩ = some (.slice B l.length d) ∧ w'.cell? ⟨w.heap.size + 1, 0, none⟩ = some (.slice (some ad) v.frames.length c0) ∧ w'.cell? (ad.add (k * 4)) = some (.int .i64 x.fn) ∧ w'.cell? ⟨(ad.add (k * 4)).block, (ad.add (k * 4)).off + 1, none⟩ = some (.int .i64 x.pc) ∧ w'.cell? ⟨(ad.add (k * 4)).block, (ad.add (k * 4)).off + 2, none⟩ = some (.slice A2 x.locals.length c2) ∧ w'.cell? ⟨(ad.add (k * 4)).block, (ad.add (k * 4)).off + 3, none⟩ = some (.slice A4 x.stack.length c4))) (by kernel_rfl) (⟨hSd.cell 1 rfl 0, hSd.cell 1 rfl 1, hSd.cell 0 rfl 0, kept hSd.bel q0', kept hSd.bel q1', kept hSd.bel q2', kept hSd.bel q3'⟩) (fun hHeld => ?_)
          (iterate 13 (first | refine rQ1 ?_ | refine rQ2 ?_); try simp only [pP])
          refine regC 13 rfl (by kernel_rfl) (by rfl) (fun Kq hKq => ?_)
          go_simp
          (with_reducible refine (frame3 A B A2 A4 c d c2 c4 v.heap.length t l x _ _ (h.below hSd.bel) hfit (hr2.below hSd.bel) (hr4.below hSd.bel) hMx hnh).mono ?_)
          rintro e w2 ⟨rfl, hb2⟩; rw [HV.out]; have hS2 := hSd.step hb2; clear hb2
          try go_wp2_with fail
          refine hKq.out _ _ (⟨hS2.cell 1 rfl 0, hS2.cell 1 rfl 1, hS2.cell 0 rfl 0, kept hS2.bel q0', kept hS2.bel q1', kept hS2.bel q2', kept hS2.bel q3'⟩) (fun hHeld => ?_)
          clear hKq Kq
          (try simp only [pP])
          (first | refine rQ1 ?_ | refine rQ2 ?_); (try simp only [pP])
          refine wpAnyH_done (by kernel_rfl) ?_ _
          clear hHeld
          go_wp2
          go_roundw
          case rel => exact ⟨k + 1, by omega, by go_num, HN, hS2⟩
          case measure => simp [intOf]; omega
end Go.Proofs.YthinhlcfpaaldaaGreat.Dat

/- The walk of the law of EntriesOf. Written by a program (lawst.py). -/
import Derived.Test.YtibfajlmecbhiaaLawSt
import Derived.Test.YtibfajlmecbhiaaEntOf
namespace Go.Proofs.Ytibfajlmecbhiaa.Dat
open Go Go.RowKit Go.Proofs.Ytibfajlmecbhiaa.Mem
set_option linter.unusedVariables false
set_option linter.unusedSimpArgs false
set_option maxHeartbeats 4000000 in
set_option maxRecDepth 100000 in
theorem lawEntriesOf (t : List ByteArray) (l : List DFunc) (f : Int) (w : World) {A B : Option Addr} {c d : Nat} (ht0 : Knd.str.Row w A t.length t) (_ : t.length ≤ c) (hr0 : kFunc.Row w B l.length l) (_ : l.length ≤ d) (hT : t.length ≤ maxLen ∧ ∀ y ∈ t, y.size ≤ maxLen) (hL : l.length ≤ maxLen ∧ ∀ y ∈ l, VFunc y) (_ : (Lit.int .i64 f).wf = true) : Calls Try.prog 5 #[.agg #[.slice A t.length c, .slice B l.length d], .int .i64 f] w fun e w' => e = .returned (.bool true) ∧ Below w.heap.size w w' := by
  have hS := (St.start w).made (.cells #[.slice A t.length c, .slice B l.length d] 25 (0, 0))
  by_cases hs : (szMod t l : Int) ≤ 1048576
  rotate_left
  · go_enter Try.func5, Try.ntmps5
    go_wp2_with fail
    refine (szM_no _ _ _ _ t l _ (ht0.below hS.bel) (hr0.below hS.bel) hT.1 hL.1 hT.2 (fun x h => (hL.2 x h).2.2.1) (by omega)).mono ?_
    rintro e w1 ⟨rfl, hb1⟩
    replace hS := hS.step hb1
    go_wp2
    go_ret
    exact ⟨rfl, hS.bel⟩
  obtain ⟨htm, hm, hv⟩ := szMod_small hs
  have hv2 : ∀ x ∈ l, x.code.length ≤ 1048576 ∧ -9223372036854775808 ≤ x.locals ∧ x.locals ≤ 9223372036854775807 := fun x h => ⟨hv x h, wf_lo (hL.2 x h).2.1, wf_hi (hL.2 x h).2.1⟩
  have hg : 0 ≤ 1048576 - (szMod t l : Int) := by omega
  have hsm := ctFunc_small l hm hv
  have hxl := entOf_len t l f hm hv
  obtain ⟨X, hX⟩ : ∃ X, (entOf t l f) = X := ⟨_, rfl⟩
  rw [hX] at hxl
  have C3 := fun A B c d w h => (hX ▸ entOf03 A B c d t l f w h : Calls Try.prog 17 _ w (NewRow (Knd.int .i64) 3 X w))
  have CI := fun A B c d w h => (hX ▸ entOfI A B c d t l f w h : Calls Try.prog 18 _ w (NewRow (Knd.int .i64) 3 X w))
  have HX := Lib.hid hX
  clear hX
  go_enter Try.func5, Try.ntmps5
  go_wp2_with fail
  refine (szM_ok _ _ _ _ t l _ (ht0.below hS.bel) (hr0.below hS.bel) hT.1 hL.1 hT.2 (fun x h => (hL.2 x h).2.2.1) (by omega)).mono ?_
  rintro e w1 ⟨rfl, hb⟩
  replace hS := hS.step hb
  clear hb
  have x_BOX := hS.cell 0 rfl
  go_wp2_with fail
  refine (toModule _ _ _ _ t l _ (ht0.below hS.bel) (hr0.below hS.bel) htm hm hv).mono ?_
  rintro e w2 ⟨v, u, F1, G1, rfl, hot, hor, hnd, hF, hb⟩
  try clear x_BOX
  try clear x_X0
  replace hS := St.newMod hS hot hor hnd hF hb
  clear hot hor hnd hF hb
  obtain ⟨A1, c1, B1, d1, rfl, rfl, _, _⟩ := St.modR hS 0 rfl
  have x_BOX := hS.cell 1 rfl
  go_wp2_with fail
  refine (C3 A1 B1 c1 d1 _ ⟨(St.modA hS 0 rfl).1, (St.modA hS 0 rfl).2, htm, hm, hT.2, hv2⟩).mono ?_
  intro e w3 hn
  try clear x_BOX
  try clear x_X0
  obtain ⟨A_w0, c_w0, F_w0, rfl, hS2⟩ := St.newRowF hS hn
  replace hS := hS2
  clear hn hS2
  have x_BOX := hS.cell 2 rfl
  go_wp2_with fail
  refine (toModule _ _ _ _ t l _ (ht0.below hS.bel) (hr0.below hS.bel) htm hm hv).mono ?_
  rintro e w4 ⟨v, u, F2, G2, rfl, hot, hor, hnd, hF, hb⟩
  try clear x_BOX
  try clear x_X0
  replace hS := St.newMod hS hot hor hnd hF hb
  clear hot hor hnd hF hb
  obtain ⟨A2, c2, B2, d2, rfl, rfl, _, _⟩ := St.modR hS 0 rfl
  have x_BOX := hS.cell 3 rfl
  replace hS := hS.made (.cells #[.slice A2 t.length c2, .slice B2 l.length d2] 31 (0, 0))
  try clear x_BOX
  try clear x_X0
  have x_X0 := hS.cell 0 rfl
  have x_BOX := hS.cell 4 rfl
  go_wp2_with fail
  refine (CI A2 B2 c2 d2 _ ⟨(St.modA hS 1 rfl).1, (St.modA hS 1 rfl).2, htm, hm, hT.2, hv2⟩).mono ?_
  intro e w5 hn
  try clear x_BOX
  try clear x_X0
  obtain ⟨A_g0, c_g0, F_g0, rfl, hS2⟩ := St.newRowF hS hn
  replace hS := hS2
  clear hn hS2
  have x_X0 := hS.cell 1 rfl
  have x_BOX := hS.cell 5 rfl
  go_wp2_with fail
  refine (eqIntS A_g0 A_w0 c_g0 c_w0 X _ (St.rowA hS 0 rfl) (St.rowA hS 3 rfl)).mono ?_
  rintro e w6 ⟨rfl, hb⟩
  try clear x_BOX
  try clear x_X0
  replace hS := hS.step hb
  clear hb
  have x_X0 := hS.cell 1 rfl
  have x_BOX := hS.cell 5 rfl
  go_wp2
  try clear x_BOX
  try clear x_X0
  go_region_held3 (fun w' => w'.cell? ⟨w4.heap.size, 0, none⟩ = some (.slice A2 t.length c2) ∧ w'.cell? ⟨w4.heap.size, 1, none⟩ = some (.slice B2 l.length d2) ∧ w'.cell? ⟨w.heap.size, 0, none⟩ = some (.slice A t.length c) ∧ w'.cell? ⟨w.heap.size, 1, none⟩ = some (.slice B l.length d)) (first | exact ⟨hS.cell 1 rfl 0, hS.cell 1 rfl 1, hS.cell 5 rfl 0, hS.cell 5 rfl 1⟩ | exact ⟨hS.cell 2 rfl 0, hS.cell 2 rfl 1, hS.cell 6 rfl 0, hS.cell 6 rfl 1⟩) (first | (go_at_call 8; refine (toModule _ _ _ _ t l _ (ht0.below hS.drew.bel) (hr0.below hS.drew.bel) htm hm hv).mono ?_; rintro e w90 ⟨v, u, F3, G3, rfl, hot, hor, hnd, hF, hb⟩; have hS := St.newMod hS.drew hot hor hnd hF hb; obtain ⟨A3, c3, B3, d3, rfl, rfl, _, _⟩ := St.modR hS 0 rfl) | (go_at_call 11; refine (eqModule _ _ _ _ _ _ _ _ t l _ (St.modA hS 3 rfl).1 (St.modA hS 3 rfl).2 (St.modA hS 0 rfl).1 (St.modA hS 0 rfl).2).mono ?_; rintro e w91 ⟨rfl, hb⟩; have hS := hS.step hb))
  have x_X0 := hS.cell 2 rfl
  have x_BOX := hS.cell 6 rfl
  go_wp2_with fail
  refine (markModule _ _ t l 1 F2 G2 _ (hS.get 3 rfl).1 (hS.get 3 rfl).2 (hS.nodup 3 rfl) (by omega) (by omega) (by omega) (by omega) (fun x h => by have := hv x h; omega)).mono ?_
  rintro e w7 ⟨rfl, hmt, hml, hB⟩
  try clear x_BOX
  try clear x_X0
  have hndx : (F2 ++ G2).Nodup := by have h9 := hS.nodup 3 rfl; exact h9
  replace hS := hS.upd (r' := Res.mod _ _ _ _ F2 G2) 3 rfl hB ⟨hmt, hml⟩ hndx (fun q hq => .inl hq)
  clear hmt hml hB hndx
  have x_X0 := hS.cell 2 rfl
  have x_BOX := hS.cell 6 rfl
  go_wp2_with fail
  refine (eqIntS A_g0 A_w0 c_g0 c_w0 X _ (St.rowA hS 1 rfl) (St.rowA hS 4 rfl)).mono ?_
  rintro e w8 ⟨rfl, hb⟩
  try clear x_BOX
  try clear x_X0
  replace hS := hS.step hb
  clear hb
  have x_X0 := hS.cell 2 rfl
  have x_BOX := hS.cell 6 rfl
  go_wp2_with fail
  refine (markI _ X 1 F_g0 _ (St.own_ hS 1 rfl) (by omega) (by omega) (by omega)).mono ?_
  rintro e w9 ⟨rfl, hmo, hB⟩
  try clear x_BOX
  try clear x_X0
  have hndx : F_g0.Nodup := by have h9 := hS.nodup 1 rfl; exact h9
  replace hS := hS.upd (r' := Res.own (Knd.int .i64) 3 _ (mkI 1 X) F_g0) 1 rfl hB hmo hndx (fun q hq => .inl hq)
  clear hmo hB hndx
  have x_X0 := hS.cell 2 rfl
  have x_BOX := hS.cell 6 rfl
  go_wp2_with fail
  refine (heldI A_g0 c_g0 X 1 _ (St.rowN hS 1 rfl (mkI_len 1 X)) (by omega) (by omega) (by omega)).mono ?_
  rintro e w10 ⟨rfl, rfl⟩
  go_wp2_with fail
  refine (toModule _ _ _ _ t l _ (ht0.below hS.bel) (hr0.below hS.bel) htm hm hv).mono ?_
  rintro e w11 ⟨v, u, F4, G4, rfl, hot, hor, hnd, hF, hb⟩
  try clear x_BOX
  try clear x_X0
  replace hS := St.newMod hS hot hor hnd hF hb
  clear hot hor hnd hF hb
  obtain ⟨A4, c4, B4, d4, rfl, rfl, _, _⟩ := St.modR hS 0 rfl
  have x_X0 := hS.cell 3 rfl
  have x_BOX := hS.cell 7 rfl
  go_wp2_with fail
  refine (CI A4 B4 c4 d4 _ ⟨(St.modA hS 0 rfl).1, (St.modA hS 0 rfl).2, htm, hm, hT.2, hv2⟩).mono ?_
  intro e w12 hn
  try clear x_BOX
  try clear x_X0
  obtain ⟨A_h0, c_h0, F_h0, rfl, hS2⟩ := St.newRowF hS hn
  replace hS := hS2
  clear hn hS2
  have x_X0 := hS.cell 4 rfl
  have x_BOX := hS.cell 8 rfl
  go_wp2_with fail
  refine (eqIntS A_h0 A_w0 c_h0 c_w0 X _ (St.rowA hS 0 rfl) (St.rowA hS 6 rfl)).mono ?_
  rintro e w13 ⟨rfl, hb⟩
  try clear x_BOX
  try clear x_X0
  replace hS := hS.step hb
  clear hb
  have x_X0 := hS.cell 4 rfl
  have x_BOX := hS.cell 8 rfl
  go_wp2_with fail
  refine (heldI A_g0 c_g0 X 1 _ (St.rowN hS 3 rfl (mkI_len 1 X)) (by omega) (by omega) (by omega)).mono ?_
  rintro e w14 ⟨rfl, rfl⟩
  go_wp2
  go_ret
  exact ⟨rfl, hS.bel⟩
end Go.Proofs.Ytibfajlmecbhiaa.Dat

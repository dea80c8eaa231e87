/- Instructions taken out, in the program; Cut. -/
import Derived.Test.YticlknijmnddeaaCutP
namespace Go.Proofs.Yticlknijmnddeaa.Dat
open Go Go.RowKit Go.Proofs.Yticlknijmnddeaa.Mem
set_option linter.unusedVariables false
set_option linter.unusedSimpArgs false
def goneL (ds : List Int) : List Bool := ds.map fun h => decide (h < 0)
theorem goneL_get {ds : List Int} {i : Nat} {h : Int} (hx : ds[i]? = some h) : (goneL ds)[i]? = some (decide (h < 0)) := by
  unfold goneL
  rw [List.getElem?_map, hx]
  rfl
theorem cutCl (g : Nat) (ad : Addr) (n i cd : Nat) (h : Int) (w : World) (hi : i < n) (h0 : w.cell? ⟨g, 0, none⟩ = some (.slice (some ad) n cd)) (h1 : w.cell? (ad.add i) = some (.int .i64 h)) :
    Calls Try.prog 69 #[.int .i64 i, .pointer (some ⟨g, 0, none⟩)] w fun e w' => e = .returned (.bool (decide (h < 0))) ∧ Below w.heap.size w w' := by
  have hi2 : (i : Int) < (n : Int) := by omega
  go_enter Try.func69, Try.ntmps69
  go_wp2
  go_ret
  exact ⟨rfl, (by repeat (first | with_reducible exact Below.refl _ _ | with_reducible assumption | (with_reducible refine bl_set ?_ (by dsimp only; omega) _) | with_reducible refine bl_alloc ?_ _ | with_reducible refine bl_drewN ?_ _ | with_reducible refine bl_drew ?_ | with_reducible refine bl_step ?_ (by with_reducible assumption) | exact Below.refl _ _ | assumption | (refine bl_set ?_ (by dsimp only; omega) _) | refine bl_alloc ?_ _ | refine bl_drewN ?_ _ | refine bl_drew ?_ | refine bl_step ?_ (by assumption)))⟩
set_option maxHeartbeats 8000000 in
set_option maxRecDepth 100000 in
theorem takenI (A B : Option Addr) (c cd g5 : Nat) (C : List DIns) (ds : List Int) (w : World) (hr : kIns.Row w A C.length C) (hd : (Knd.int .i64).Row w B C.length ds) (h5 : w.cell? ⟨g5, 0, none⟩ = some (.slice B C.length cd)) (hn : C.length ≤ 120) (hJ : JOk C) :
    Calls Try.prog 68 #[.slice A C.length c, .func (.func 69) #[] #[.pointer (some ⟨g5, 0, none⟩)]] w (NewRow kIns 92 (outC C (goneL ds)) w) := by
  have hml : ds.length = C.length := hd.1
  have hS0 := ((St.start w).empty kIns 92 w.heap.size rfl).empty (Knd.int .i64) 3 (w.heap.size + 1) (by simp)
  go_enter Try.func68, Try.ntmps68
  go_wp2
  go_loopw [5, 6, 15] (fun u v i wr => ∃ (k : Nat) (F G : List Nat), k ≤ C.length ∧ i = .int .i64 k ∧ St w [Res.own kIns 92 u (keepTo C (goneL ds) k) G, Res.own (Knd.int .i64) 3 v (newsTo C (goneL ds) k) F] wr) (fun _ _ i _ => C.length - (intOf i).toNat)
  case atStart => exact ⟨0, _, _, by omega, rfl, hS0.front 1 rfl⟩
  case round =>
    clear hS0
    obtain ⟨k, F, G, hk, rfl, hS⟩ := hrel
    obtain ⟨Au, cu, rfl, _, _⟩ := hS.row 0 rfl
    have hkl := keepTo_len C (goneL ds) k
    have hnl := newsTo_len C (goneL ds) k
    by_cases hlt : k < C.length
    · obtain ⟨x, hx⟩ := get_exU C k hlt
      obtain ⟨ad, rfl, q0, q1⟩ := kIns_at (hr.below hS.bel) k x hx
      obtain ⟨hb, hhb⟩ := get_exU ds k (by omega)
      obtain ⟨B0, rfl, r0⟩ := (hd.below hS.bel).one k hb hhb
      have hnw : newsTo C (goneL ds) (k + 1) = newsTo C (goneL ds) k ++ [((keepTo C (goneL ds) k).length : Int)] := rfl
      have HNW := Lib.hid hnw
      have HNL := Lib.hid hnl
      have HB := Lib.hid hhb
      obtain ⟨xo, xa⟩ := x
      dsimp only at q0 q1
      have hT := hS.made (.cells #[.int .i64 xo, .int .i64 xa] 92 (0, 0))
      cases hbl : decide (hb < 0)
      · have HK := Lib.hid (keepS (g := goneL ds) hx (by rw [goneL_get hhb, hbl]))
        obtain ⟨K, hK⟩ : ∃ K, keepTo C (goneL ds) k = K := ⟨_, rfl⟩
        obtain ⟨NS, hNS⟩ : ∃ NS, newsTo C (goneL ds) k = NS := ⟨_, rfl⟩
        rw [hK] at hT hkl HNW HK
        rw [hNS] at hT hnl HNW HNL
        rw [hK]
        have HBL := Lib.hid hbl
        clear hK hNS hx hhb hnw hbl hS
        have hS := hT
        have x8 := hS.cell 0 rfl
        clear hT
        go_wp2_with (at_builtin; refine Knd.wp_app1 rfl _ _ _ rfl 3 Try.underlying104 (.int .i64 0) 8 infoInt rfl rfl ((hS.al _).own_ 2 rfl) _ _ _ _ _ (blkAt _ _ (by simp)) rfl (by (try simp [maxLen]); (try omega)) (by (try simp); (try omega)) ?_; rintro gq cq wq hO hB hg; have hSq := (hS.al _).app1 2 rfl hO hB hg; clear hO hB hg hS; have hS := hSq; clear hSq; obtain ⟨ad2', e2, t2⟩ := (hd.below hS.bel).one k _ HB.out; cases e2; have x8 := hS.cell 0 rfl; have h5' := kept hS.bel h5)
        refine (cutCl g5 B0 C.length k cd hb _ (by omega) h5' t2).mono ?_; rintro e wc ⟨rfl, hbc⟩; replace hS := hS.step hbc; clear x8 hbc; have x8 := hS.cell 0 rfl
        rw [HBL.out]
        go_wp2_with (at_builtin; refine Knd.wp_appE kIns rfl _ _ _ rfl 92 Try.underlying87 (.agg #[.int .i64 0, .int .i64 0]) 16 infoIns rfl (by decide) rfl ((hS.al _).own_ 1 rfl) _ _ _ _ ⟨xo, xa⟩ (blkAt _ _ (by simp)) rfl (kIns_Oi.2 ⟨rfl, rfl⟩) (by have := hS.nodup 1 rfl; simpa [Res.own] using this) (by unfold maxLen; omega) (by omega) ?_; rintro gz cz wz Fq hO hB hnd hF; have hS2 := (hS.al _).appK 1 rfl hO hB hnd hF; clear hO hB hF hnd hS)
        go_roundw
        case rel => exact ⟨k + 1, _, Fq, by omega, by go_num, by rw [HK.out, HNW.out]; have h9 := hS2.drop; rw [HNL.out] at h9; exact h9⟩
        case measure => simp [intOf]; omega
      · have HK := Lib.hid (keepN (c := C) (g := goneL ds) (by rw [goneL_get hhb, hbl]))
        obtain ⟨K, hK⟩ : ∃ K, keepTo C (goneL ds) k = K := ⟨_, rfl⟩
        obtain ⟨NS, hNS⟩ : ∃ NS, newsTo C (goneL ds) k = NS := ⟨_, rfl⟩
        rw [hK] at hT hkl HNW HK
        rw [hNS] at hT hnl HNW HNL
        rw [hK]
        have HBL := Lib.hid hbl
        clear hK hNS hx hhb hnw hbl hS
        have hS := hT
        have x8 := hS.cell 0 rfl
        clear hT
        go_wp2_with (at_builtin; refine Knd.wp_app1 rfl _ _ _ rfl 3 Try.underlying104 (.int .i64 0) 8 infoInt rfl rfl ((hS.al _).own_ 2 rfl) _ _ _ _ _ (blkAt _ _ (by simp)) rfl (by (try simp [maxLen]); (try omega)) (by (try simp); (try omega)) ?_; rintro gq cq wq hO hB hg; have hSq := (hS.al _).app1 2 rfl hO hB hg; clear hO hB hg hS; have hS := hSq; clear hSq; obtain ⟨ad2', e2, t2⟩ := (hd.below hS.bel).one k _ HB.out; cases e2; have x8 := hS.cell 0 rfl; have h5' := kept hS.bel h5)
        refine (cutCl g5 B0 C.length k cd hb _ (by omega) h5' t2).mono ?_; rintro e wc ⟨rfl, hbc⟩; replace hS := hS.step hbc; clear x8 hbc; have x8 := hS.cell 0 rfl
        rw [HBL.out]
        go_wp2
        go_roundw
        case rel => exact ⟨k + 1, _, G, by omega, by go_num, by rw [HK.out, HNW.out]; have h9 := hS.drop; rw [HNL.out] at h9; exact h9⟩
        case measure => simp [intOf]; omega
    · obtain rfl : k = C.length := by omega
      have HKM := Lib.hid (keepTo_mem C (goneL ds) C.length (Nat.le_refl _))
      have HO := Lib.hid (show outC C (goneL ds) = (keepTo C (goneL ds) C.length).map (fixJ (newsTo C (goneL ds) C.length)) from rfl)
      obtain ⟨K, hK⟩ : ∃ K, keepTo C (goneL ds) C.length = K := ⟨_, rfl⟩
      obtain ⟨NS, hNS⟩ : ∃ NS, newsTo C (goneL ds) C.length = NS := ⟨_, rfl⟩
      rw [hK] at hS hkl HKM HO
      rw [hNS] at hS hnl HO
      rw [hK]
      clear hK hNS hlt hk
      obtain ⟨Av, cv, rfl, _, _⟩ := hS.row 1 rfl
      rw [hnl] at hS ⊢
      go_wp2
      go_loopw [36] (fun i wx => ∃ (j : Nat) (G : List Nat), j ≤ K.length ∧ i = .int .i64 j ∧ St w [Res.own kIns 92 (.slice Au K.length cu) ((K.take j).map (fixJ NS) ++ K.drop j) G, Res.own (Knd.int .i64) 3 (.slice Av C.length cv) NS F] wx) (fun i _ => K.length - (intOf i).toNat)
      case atStart => exact ⟨0, G, by omega, rfl, hS⟩
      case round =>
        clear hS
        obtain ⟨j, G, hj, rfl, hS⟩ := hrel
        by_cases hjl : j < K.length
        · obtain ⟨x, hx⟩ := get_exU K j hjl
          have hcl : ((K.take j).map (fixJ NS) ++ K.drop j).length = K.length := by simp; omega
          obtain ⟨gu, cu', hv, _⟩ := own_form (hS.own_ 0 rfl) (by omega)
          rw [hcl] at hv
          cases hv
          obtain ⟨s0, s1, sf⟩ := St.insAt hS 0 rfl j x (fix_get hx)
          have hxm := HKM.out x (List.mem_of_getElem? hx)
          have HX := Lib.hid hx
          have HFG := Lib.hid (fix_get (f := fixJ NS) hx)
          have hT := hS.made (.cells #[.int .i64 x.op, .int .i64 x.a] 92 (0, 0))
          cases hjm : isJmp x.op
          · have HS := Lib.hid (fix_same (f := fixJ NS) hx (by unfold fixJ; rw [hjm]; rfl))
            have HJM := Lib.hid hjm
            clear hjm hx hcl hxm
            go_wp2_with fail
            refine (isJumpI x.op x.a _ HJM.out).mono ?_
            rintro e w2 ⟨rfl, hb2⟩
            have hT2 := hT.step hb2
            clear s0 s1 sf hT hb2
            go_wp2
            go_roundw
            case rel => exact ⟨j + 1, G, by omega, by go_num, by rw [HS.out]; exact hT2.drop⟩
            case measure => simp [intOf]; omega
          · obtain ⟨z1, z2⟩ := hJ x hxm hjm
            obtain ⟨p, hp⟩ : ∃ p : Nat, x.a = p := ⟨x.a.toNat, by omega⟩
            obtain ⟨nv, hnv⟩ : ∃ nv, NS[p]? = some nv := ⟨NS[p]'(by omega), List.getElem?_eq_getElem _⟩
            have hpl : p < C.length := by omega
            have HS := Lib.hid (show ((K.take j).map (fixJ NS) ++ K.drop j).set j ⟨x.op, nv⟩ = (K.take (j + 1)).map (fixJ NS) ++ K.drop (j + 1) by
              have h9 := fix_step (f := fixJ NS) hx
              have e9 : fixJ NS x = ⟨x.op, nv⟩ := by unfold fixJ; rw [if_pos hjm, hp, Int.toNat_natCast, List.getD_eq_getElem?_getD, hnv]; rfl
              rw [e9] at h9
              exact h9)
            have HJM := Lib.hid hjm
            have HNV := Lib.hid hnv
            rw [hp] at s1 hT
            obtain ⟨xo, xa⟩ := x
            dsimp only at s0 hT HJM hp
            clear hjm hx hcl hxm z1 z2 hp hnv
            go_wp2_with fail
            refine (isJumpI xo p _ HJM.out).mono ?_
            rintro e w2 ⟨rfl, hb2⟩
            have hT2 := hT.step hb2
            clear s0 s1 sf hT hb2
            obtain ⟨t0, t1, tf⟩ := St.insAt hT2 1 rfl j _ HFG.out
            obtain ⟨adn, rfl, u0⟩ := (St.rowA hT2 2 rfl).one p nv HNV.out
            have x10 := hT2.cell 0 rfl
            have hS2 := Lib.hid (St.insSetA hT2 1 rfl j _ HFG.out nv).drop
            dsimp only at t0 t1
            go_wp2
            go_roundw
            case rel => exact ⟨j + 1, G, by omega, by go_num, by have h9 := hS2.out; have h8 := HS.out; (try dsimp only at h8); (try dsimp only at h9); rw [h8] at h9; exact h9⟩
            case measure => simp [intOf]; omega
        · obtain rfl : j = K.length := by omega
          have e9 : (K.take K.length).map (fixJ NS) ++ K.drop K.length = outC C (goneL ds) := by rw [HO.out]; simp
          rw [e9] at hS
          go_wp2
          go_ret
          exact hS.outRow 0 rfl
end Go.Proofs.Yticlknijmnddeaa.Dat

/- Cut: what it computes; instructions taken out, in the reference. -/
import Derived.Test.YticlknijmnddeaaThreadP
namespace Go.Proofs.Yticlknijmnddeaa.Dat
open Go Go.RowKit Go.Proofs.Yticlknijmnddeaa.Mem
set_option linter.unusedVariables false
set_option linter.unusedSimpArgs false
def keepTo (c : List DIns) (g : List Bool) : Nat → List DIns
  | 0 => []
  | i + 1 => keepTo c g i ++ (if g.getD i false = true then [] else [insOf c i])
def newsTo (c : List DIns) (g : List Bool) : Nat → List Int
  | 0 => []
  | i + 1 => newsTo c g i ++ [((keepTo c g i).length : Int)]
def fixJ (ns : List Int) (x : DIns) : DIns := if isJmp x.op = true then ⟨x.op, ns.getD x.a.toNat 0⟩ else x
def outC (c : List DIns) (g : List Bool) : List DIns := (keepTo c g c.length).map (fixJ (newsTo c g c.length))
theorem newsTo_len (c : List DIns) (g : List Bool) : ∀ i, (newsTo c g i).length = i
  | 0 => rfl
  | i + 1 => by rw [newsTo, List.length_append, newsTo_len c g i]; rfl
theorem keepTo_len (c : List DIns) (g : List Bool) : ∀ i, (keepTo c g i).length ≤ i
  | 0 => by simp [keepTo]
  | i + 1 => by
    have := keepTo_len c g i
    rw [keepTo, List.length_append]
    split <;> simp <;> omega
theorem keepTo_mem (c : List DIns) (g : List Bool) : ∀ i, i ≤ c.length → ∀ x ∈ keepTo c g i, x ∈ c
  | 0, _, x, h => by simp [keepTo] at h
  | i + 1, hi, x, h => by
    rw [keepTo] at h
    rcases List.mem_append.1 h with h | h
    · exact keepTo_mem c g i (by omega) x h
    · split at h
      · simp at h
      · rw [List.mem_singleton.1 h, insOf_get (List.getElem?_eq_getElem (by omega))]
        exact List.getElem_mem _
theorem outC_len (c : List DIns) (g : List Bool) : (outC c g).length ≤ c.length := by
  unfold outC
  rw [List.length_map]
  exact keepTo_len c g _
theorem fix_step {α : Type} {f : α → α} {l : List α} {k : Nat} {x : α} (h : l[k]? = some x) : ((l.take k).map f ++ l.drop k).set k (f x) = (l.take (k + 1)).map f ++ l.drop (k + 1) := by
  have hk : k < l.length := (List.getElem?_eq_some_iff.1 h).1
  rw [List.set_append_right _ _ (by simp; omega)]
  have e1 : k - ((l.take k).map f).length = 0 := by simp; omega
  rw [e1, List.drop_eq_getElem_cons hk, List.set_cons_zero, List.take_add_one, h]
  simp
theorem fix_get {α : Type} {f : α → α} {l : List α} {k : Nat} {x : α} (h : l[k]? = some x) : ((l.take k).map f ++ l.drop k)[k]? = some x := by
  have hk : k < l.length := (List.getElem?_eq_some_iff.1 h).1
  rw [List.getElem?_append_right (by simp; omega)]
  have e1 : k - ((l.take k).map f).length = 0 := by simp; omega
  rw [e1, List.getElem?_drop]
  exact h
theorem fix_same {α : Type} {f : α → α} {l : List α} {k : Nat} {x : α} (h : l[k]? = some x) (hf : f x = x) : (l.take (k + 1)).map f ++ l.drop (k + 1) = (l.take k).map f ++ l.drop k := by
  rw [← fix_step h, hf]
  refine List.ext_getElem? fun q => ?_
  by_cases hq : q = k
  · subst hq
    rw [fix_get h, List.getElem?_set_self (by simp; have := (List.getElem?_eq_some_iff.1 h).1; omega)]
  · rw [List.getElem?_set_ne (Ne.symm hq)]
theorem keepS {c : List DIns} {g : List Bool} {i : Nat} {x : DIns} (hx : c[i]? = some x) (hg : g[i]? = some false) : keepTo c g (i + 1) = keepTo c g i ++ [x] := by
  rw [keepTo, List.getD_eq_getElem?_getD, hg, insOf_get hx]
  rfl
theorem keepN {c : List DIns} {g : List Bool} {i : Nat} (hg : g[i]? = some true) : keepTo c g (i + 1) = keepTo c g i := by
  rw [keepTo, List.getD_eq_getElem?_getD, hg]
  simp
set_option maxHeartbeats 8000000 in
set_option maxRecDepth 100000 in
theorem out03 (A B : Option Addr) (c d : Nat) (C : List DIns) (m : List Bool) (w : World) (hr : kIns.Row w A C.length C) (hg : Knd.bool.Row w B C.length m) (hn : C.length ≤ 120) (hJ : JOk C) :
    Calls Try.prog 62 #[.slice A C.length c, .slice B C.length d] w (NewRow kIns 92 (outC C m) w) := by
  have hml : m.length = C.length := hg.1
  have hS0 := ((St.start w).empty (Knd.int .i64) 3 w.heap.size rfl).empty kIns 92 (w.heap.size + 1) (by simp)
  go_enter Try.func62, Try.ntmps62
  go_wp2
  go_loopw [5, 6, 7] (fun v u i wr => ∃ (k : Nat) (F G : List Nat), k ≤ C.length ∧ i = .int .i64 k ∧ St w [Res.own kIns 92 u (keepTo C m k) G, Res.own (Knd.int .i64) 3 v (newsTo C m k) F] wr) (fun _ _ i _ => C.length - (intOf i).toNat)
  case atStart => exact ⟨0, _, _, by omega, rfl, hS0⟩
  case round =>
    clear hS0
    obtain ⟨k, F, G, hk, rfl, hS⟩ := hrel
    obtain ⟨Au, cu, rfl, _, _⟩ := hS.row 0 rfl
    have hkl := keepTo_len C m k
    have hnl := newsTo_len C m k
    by_cases hlt : k < C.length
    · obtain ⟨x, hx⟩ := get_exU C k hlt
      obtain ⟨ad, rfl, q0, q1⟩ := kIns_at (hr.below hS.bel) k x hx
      obtain ⟨b, hb⟩ := get_exU m k (by omega)
      obtain ⟨ad2, rfl, r0⟩ := (hg.below hS.bel).one k b hb
      have hnw : newsTo C m (k + 1) = newsTo C m k ++ [((keepTo C m k).length : Int)] := rfl
      have HNW := Lib.hid hnw
      have HNL := Lib.hid hnl
      obtain ⟨xo, xa⟩ := x
      dsimp only at q0 q1
      have HX := Lib.hid hx
      have HB := Lib.hid hb
      cases b
      · have HK := Lib.hid (keepS hx hb)
        obtain ⟨K, hK⟩ : ∃ K, keepTo C m k = K := ⟨_, rfl⟩
        obtain ⟨NS, hNS⟩ : ∃ NS, newsTo C m k = NS := ⟨_, rfl⟩
        rw [hK] at hS hkl HNW HK
        rw [hNS] at hS hnl HNW HNL
        rw [hK]
        clear hK hNS hx hb hnw
        go_wp2_with (first | (at_builtin; refine Knd.wp_app1 rfl _ _ _ rfl 3 Try.underlying104 (.int .i64 0) 8 infoInt rfl rfl ((hS.al _).own_ 1 rfl) _ _ _ _ _ (blkAt _ _ (by simp)) rfl (by (try simp [maxLen]); (try omega)) (by (try simp); (try omega)) ?_; rintro gq cq wq hO hB hg; have hSq := (hS.al _).app1 1 rfl hO hB hg; clear hO hB hg hS; have hS := hSq; clear hSq; obtain ⟨ad', e', t0, t1⟩ := kIns_at (hr.below hS.bel) k _ HX.out; cases e'; obtain ⟨ad2', e2, t2⟩ := (hg.below hS.bel).one k _ HB.out; cases e2; dsimp only at t0 t1; clear q0 q1 r0) | (at_builtin; refine Knd.wp_appE kIns rfl _ _ _ rfl 92 Try.underlying87 (.agg #[.int .i64 0, .int .i64 0]) 16 infoIns rfl (by decide) rfl ((hS.al _).own_ 0 rfl) _ _ _ _ ⟨xo, xa⟩ (blkAt _ _ (by simp)) rfl (kIns_Oi.2 ⟨rfl, rfl⟩) (by have := hS.nodup 0 rfl; simpa [Res.own] using this) (by unfold maxLen; omega) (by omega) ?_; rintro gz cz wz Fq hO hB hnd hF; have hS2 := (hS.al _).appK 0 rfl hO hB hnd hF; clear hO hB hF hnd hS))
        go_roundw
        case rel => exact ⟨k + 1, _, Fq, by omega, by go_num, by rw [HK.out, HNW.out]; have h9 := hS2; rw [HNL.out] at h9; exact h9⟩
        case measure => simp [intOf]; omega
      · have HK := Lib.hid (keepN (c := C) hb)
        obtain ⟨K, hK⟩ : ∃ K, keepTo C m k = K := ⟨_, rfl⟩
        obtain ⟨NS, hNS⟩ : ∃ NS, newsTo C m k = NS := ⟨_, rfl⟩
        rw [hK] at hS hkl HNW HK
        rw [hNS] at hS hnl HNW HNL
        rw [hK]
        clear hK hNS hx hb hnw
        go_wp2_with (at_builtin; refine Knd.wp_app1 rfl _ _ _ rfl 3 Try.underlying104 (.int .i64 0) 8 infoInt rfl rfl ((hS.al _).own_ 1 rfl) _ _ _ _ _ (blkAt _ _ (by simp)) rfl (by (try simp [maxLen]); (try omega)) (by (try simp); (try omega)) ?_; rintro gq cq wq hO hB hg; have hSq := (hS.al _).app1 1 rfl hO hB hg; clear hO hB hg hS; have hS := hSq; clear hSq; obtain ⟨ad', e', t0, t1⟩ := kIns_at (hr.below hS.bel) k _ HX.out; cases e'; obtain ⟨ad2', e2, t2⟩ := (hg.below hS.bel).one k _ HB.out; cases e2; dsimp only at t0 t1; clear q0 q1 r0)
        go_roundw
        case rel => exact ⟨k + 1, _, G, by omega, by go_num, by rw [HK.out, HNW.out]; have h9 := hS; rw [HNL.out] at h9; exact h9⟩
        case measure => simp [intOf]; omega
    · obtain rfl : k = C.length := by omega
      have HKM := Lib.hid (keepTo_mem C m C.length (Nat.le_refl _))
      have HO := Lib.hid (show outC C m = (keepTo C m C.length).map (fixJ (newsTo C m C.length)) from rfl)
      obtain ⟨K, hK⟩ : ∃ K, keepTo C m C.length = K := ⟨_, rfl⟩
      obtain ⟨NS, hNS⟩ : ∃ NS, newsTo C m C.length = NS := ⟨_, rfl⟩
      rw [hK] at hS hkl HKM HO
      rw [hNS] at hS hnl HO
      rw [hK]
      clear hK hNS hlt hk
      obtain ⟨Av, cv, rfl, _, _⟩ := hS.row 1 rfl
      go_wp2
      go_loopw [8] (fun i wx => ∃ (j : Nat) (G : List Nat), j ≤ K.length ∧ i = .int .i64 j ∧ St w [Res.own kIns 92 (.slice Au K.length cu) ((K.take j).map (fixJ NS) ++ K.drop j) G, Res.own (Knd.int .i64) 3 (.slice Av NS.length cv) NS F] wx) (fun i _ => K.length - (intOf i).toNat)
      case atStart => exact ⟨0, G, by omega, rfl, hS⟩
      case round =>
        clear hS
        obtain ⟨j, G, hj, rfl, hS⟩ := hrel
        by_cases hjl : j < K.length
        · obtain ⟨x, hx⟩ := get_exU K j hjl
          have hcl : ((K.take j).map (fixJ NS) ++ K.drop j).length = K.length := by simp; omega
          obtain ⟨gu, cu', hv, _⟩ := own_form (hS.own_ 0 rfl) (by omega)
          rw [hcl] at hv
          cases hv
          obtain ⟨s0, s1, sf⟩ := St.insAt hS 0 rfl j x (fix_get hx)
          have hxm := HKM.out x (List.mem_of_getElem? hx)
          have HX := Lib.hid hx
          have HFG := Lib.hid (fix_get (f := fixJ NS) hx)
          cases hjm : isJmp x.op
          · have HS := Lib.hid (fix_same (f := fixJ NS) hx (by unfold fixJ; rw [hjm]; rfl))
            obtain ⟨n1, n2, n3⟩ := jmp_no hjm
            have m1 : (x.op == 17) = false := by simpa using n1
            have m2 : (x.op == 18) = false := by simpa using n2
            have m3 : (x.op == 19) = false := by simpa using n3
            clear n1 n2 n3 hjm hx hcl hxm
            go_wp2
            go_roundw
            case rel => exact ⟨j + 1, G, by omega, by go_num, by rw [HS.out]; exact hS⟩
            case measure => simp [intOf]; omega
          · obtain ⟨z1, z2⟩ := hJ x hxm hjm
            obtain ⟨p, hp⟩ : ∃ p : Nat, x.a = p := ⟨x.a.toNat, by omega⟩
            obtain ⟨nv, hnv⟩ : ∃ nv, NS[p]? = some nv := ⟨NS[p]'(by omega), List.getElem?_eq_getElem _⟩
            obtain ⟨adn, rfl, u0⟩ := (St.rowA hS 1 rfl).one p nv hnv
            have hpl : p < C.length := by omega
            have HS := Lib.hid (show ((K.take j).map (fixJ NS) ++ K.drop j).set j ⟨x.op, nv⟩ = (K.take (j + 1)).map (fixJ NS) ++ K.drop (j + 1) by
              have h9 := fix_step (f := fixJ NS) hx
              have e9 : fixJ NS x = ⟨x.op, nv⟩ := by unfold fixJ; rw [if_pos hjm, hp, Int.toNat_natCast, List.getD_eq_getElem?_getD, hnv]; rfl
              rw [e9] at h9
              exact h9)
            rw [hp] at s1
            obtain ⟨xo, xa⟩ := x
            dsimp only at hjm s0
            have hS2 := Lib.hid (St.insSetA hS 0 rfl j _ HFG.out nv)
            rcases jmp_yes hjm with rfl | rfl | rfl <;> (
              clear hjm hx hcl hxm hnv z1 z2 hp
              go_wp2
              go_roundw
              case rel => exact ⟨j + 1, G, by omega, by go_num, by have h9 := hS2.out; have h8 := HS.out; dsimp only at h8 h9; rw [h8] at h9; exact h9⟩
              case measure => simp [intOf]; omega)
        · obtain rfl : j = K.length := by omega
          have e9 : (K.take K.length).map (fixJ NS) ++ K.drop K.length = outC C m := by rw [HO.out]; simp
          rw [e9] at hS
          go_wp2
          go_ret
          exact hS.outRow 0 rfl
end Go.Proofs.Yticlknijmnddeaa.Dat

/- Cut, in the reference and in the program. -/
import Derived.Test.YticlknijmnddeaaCutI
namespace Go.Proofs.Yticlknijmnddeaa.Dat
open Go Go.RowKit Go.Proofs.Yticlknijmnddeaa.Mem
set_option linter.unusedVariables false
set_option linter.unusedSimpArgs false
theorem St.putCode {w W : World} {L : List Res} {v' : Value} {g n c j : Nat} {l : List DFunc} {x : DFunc} {G F2 : List Nat} {code : List DIns} (h : St w (Res.own kIns 92 v' code F2 :: Res.own kFunc 89 (.slice (some ⟨g, 0, none⟩) n c) l G :: L) W) (hx : l[j]? = some x) :
    ∃ G', St w (Res.own kFunc 89 (.slice (some ⟨g, 0, none⟩) n c) (l.set j ⟨x.params, x.locals, code⟩) G' :: L) (W.setCell ⟨g, j * 3 + 2, none⟩ v') := by
  have hj : j < l.length := (List.getElem?_eq_some_iff.1 hx).1
  have hown : kFunc.Own 89 W (.slice (some ⟨g, 0, none⟩) n c) l G := h.get 1 rfl
  have hcode : kIns.Own 92 W v' code F2 := h.get 0 rfl
  have hnG : G.Nodup := h.nodup 1 rfl
  have hn2 : (F2 ++ G).Nodup := h.nodup2
  obtain ⟨Fs, hF, rfl⟩ := hown.fs
  have e0 : (Value.slice (some ⟨g, 0, none⟩) n c).ownBlock.toList = [g] := rfl
  rw [e0] at hnG hn2 h
  obtain ⟨inner, hA⟩ := hF.toAt (by simpa using hnG)
  obtain ⟨Fj, hFj, hO, hc⟩ := hA.elem j x hx
  obtain ⟨vj, F3, hseg, rfl, ho⟩ := kFunc_Oi.1 hO
  have hjF : j < Fs.length := (List.getElem?_eq_some_iff.1 hFj).1
  have hperm : (F2 ++ ([g] ++ Fs.flatten)).Perm (Fj ++ (g :: (Fs.set j F2).flatten)) := by
    have h1 := flat_perm hFj
    have h2 := flat_set_perm (F2 := F2) hjF
    have a1 : (F2 ++ ([g] ++ Fs.flatten)).Perm (F2 ++ ([g] ++ (Fj ++ (Fs.eraseIdx j).flatten))) := (h1.append_left [g]).append_left F2
    have a2 : (F2 ++ ([g] ++ (Fj ++ (Fs.eraseIdx j).flatten))).Perm (Fj ++ ([g] ++ (F2 ++ (Fs.eraseIdx j).flatten))) := by
      refine List.perm_iff_count.2 fun q => ?_
      simp only [List.count_append]
      omega
    have a3 : (Fj ++ ([g] ++ (F2 ++ (Fs.eraseIdx j).flatten))).Perm (Fj ++ ([g] ++ (Fs.set j F2).flatten)) := (h2.symm.append_left [g]).append_left Fj
    exact (a1.trans a2).trans a3
  have hnd : (g :: (Fs.set j F2).flatten).Nodup := (List.nodup_append.1 ((hperm.nodup_iff).1 hn2)).2.1
  have hP := hA.putF j 2 hj (by decide) v' (⟨x.params, x.locals, code⟩ : DFunc) F2 (by rw [hseg]; exact kFunc_Oi.2 ⟨v', F2, rfl, rfl, hcode⟩) hnd
  have h1 := hP.ownF.own
  rw [e0] at h1
  refine ⟨[g] ++ (Fs.set j F2).flatten, h.pair2.upd0 (r' := Res.own kFunc 89 (.slice (some ⟨g, 0, none⟩) n c) (l.set j ⟨x.params, x.locals, code⟩) ([g] ++ (Fs.set j F2).flatten)) ((But.refl _ _).set (by simp [Res.both, Res.own]) _ _) h1 (by simpa [Res.own] using hnd) (fun q hq => .inl ?_)⟩
  have hq2 : q ∈ Fj ++ (g :: (Fs.set j F2).flatten) := List.mem_append_right _ hq
  exact hperm.mem_iff.2 hq2
/-! ### What Cut answers -/
def cutD (l : List DFunc) (x : DFunc) : DFunc := ⟨x.params, x.locals, outC x.code (goneL (depthsL l x.code))⟩
def cutT (t : List ByteArray) (l : List DFunc) : List ByteArray := if isGoodB t l = true then t else []
def cutF (t : List ByteArray) (l : List DFunc) : List DFunc := if isGoodB t l = true then l.map (cutD l) else []
theorem cut_small (t : List ByteArray) (l : List DFunc) : (cutT t l).length ≤ 1048576 ∧ (cutF t l).length ≤ 1048576 ∧ ∀ x ∈ cutF t l, x.code.length ≤ 1048576 := by
  unfold cutT cutF
  split
  · rename_i h
    have hf := modFit (isGood_mod h)
    have h1 := hf.n12
    have h2 := hf.t20
    refine ⟨by omega, by rw [List.length_map]; omega, fun x hx => ?_⟩
    obtain ⟨y, hy, rfl⟩ := List.mem_map.1 hx
    have := hf.c120 y hy
    have h3 := outC_len y.code (goneL (depthsL l y.code))
    unfold cutD
    dsimp only
    omega
  · exact ⟨by simp, by simp, fun x hx => by simp at hx⟩
theorem goneL_len (ds : List Int) : (goneL ds).length = ds.length := by unfold goneL; rw [List.length_map]
theorem goneL_snoc {ds : List Int} {k : Nat} {h : Int} (hx : ds[k]? = some h) : goneL (ds.take (k + 1)) = goneL (ds.take k) ++ [decide (h < 0)] := by
  unfold goneL
  rw [List.take_add_one, hx, List.map_append]
  rfl
set_option maxHeartbeats 16000000 in
set_option maxRecDepth 100000 in
theorem cut03 (A B : Option Addr) (c d : Nat) (t : List ByteArray) (l : List DFunc) (w : World) (h : HasMod A B t l w) {X : List ByteArray} {Y : List DFunc} (hX : cutT t l = X) (hY : cutF t l = Y) :
    Calls Try.prog 17 #[.agg #[.slice A t.length c, .slice B l.length d]] w (NewMod X Y w) := by
  have hlm := h.hm
  have htm := h.htm
  have hS := ((St.start w).made (.cells #[.slice A t.length c, .slice B l.length d] 26 (0, 0))).madeAt (.cells #[.slice none 0 0, .slice none 0 0] 26 (0, 0)) (w.heap.size + 1) (by simp)
  cases hg : isGoodB t l
  · obtain rfl : X = [] := by rw [← hX]; unfold cutT; rw [hg]; rfl
    obtain rfl : Y = [] := by rw [← hY]; unfold cutF; rw [hg]; rfl
    have HG := Lib.hid hg
    clear hg hX hY
    go_enter Try.func17, Try.ntmps17
    go_wp2_with fail
    refine (good03 A B c d t l _ (h.below hS.bel) HG.out).mono ?_
    rintro e w1 ⟨rfl, hb⟩
    replace hS := hS.step hb
    have x0 := hS.cell 0 rfl
    have f0 := hS.free 0 rfl
    go_wp2
    have hS2 := (hS.set 0 rfl 0 (.slice none 0 0)).set 0 rfl 1 (.slice none 0 0)
    have y0 := hS2.cell 0 rfl 0
    have y1 := hS2.cell 0 rfl 1
    refine bodyPost_ret (v := .agg #[.slice none 0 0, .slice none 0 0]) (by simp [results, Try.results17, go_sem, *]) rfl ?_
    exact ⟨_, _, [], [], rfl, ((hS2.drop.drop).nil_ kFunc 89).nil_ Knd.str 9⟩
  obtain rfl : X = t := by rw [← hX]; unfold cutT; rw [hg]; rfl
  obtain rfl : Y = l.map (cutD l) := by rw [← hY]; unfold cutF; rw [hg]; rfl
  have HG := Lib.hid hg
  have HF := Lib.hid (modFit (isGood_mod hg))
  have hl1 := HF.out.n1
  clear hg hX hY
  go_enter Try.func17, Try.ntmps17
  go_wp2_with fail
  refine (good03 A B c d X l _ (h.below hS.bel) HG.out).mono ?_
  rintro e w1 ⟨rfl, hb⟩
  replace hS := hS.step hb
  clear hb
  have x1 := hS.cell 1 rfl
  go_wp2_with fail
  refine (copy03 A B c d X l _ (h.below hS.bel)).mono ?_
  rintro e w2 ⟨v, u, F, G, rfl, hN⟩
  obtain ⟨A1, c1, rfl, _, _⟩ := hN.row 0 rfl
  obtain ⟨gF, dF, rfl, _⟩ := own_form (hN.own_ 1 rfl) (by omega)
  have hS1 := hS.join hN
  obtain ⟨g3, hg3⟩ : ∃ g3, w2.heap.size = g3 := ⟨_, rfl⟩
  have hz1 := hS1.blt 2 rfl
  have hz2 := hS1.blt 3 rfl
  rw [hg3] at hz1 hz2
  have hS2 := hS1.madeAt (.cells #[.slice A1 X.length c1, .slice (some ⟨gF, 0, none⟩) l.length dF] 26 (0, 0)) g3 hg3
  clear hS hN x1 hS1
  go_wp2
  go_loopw [4] (fun i wr => ∃ (k : Nat) (G : List Nat), k ≤ l.length ∧ i = .int .i64 k ∧ St w [Res.own kFunc 89 (.slice (some ⟨gF, 0, none⟩) l.length dF) ((l.take k).map (cutD l) ++ l.drop k) G, Res.box g3 (.cells #[.slice A1 X.length c1, .slice (some ⟨gF, 0, none⟩) l.length dF] 26 (0, 0)), Res.own Knd.str 9 (.slice A1 X.length c1) X F, Res.box (w.heap.size + 1) (.cells #[.slice none 0 0, .slice none 0 0] 26 (0, 0)), Res.box w.heap.size (.cells #[.slice A X.length c, .slice B l.length d] 26 (0, 0))] wr) (fun i _ => l.length - (intOf i).toNat)
  case atStart => exact ⟨0, G, by omega, rfl, hS2.front 2 rfl⟩
  case round =>
    clear hS2 hg3 hz1 hz2
    obtain ⟨k, G, hk, rfl, hS⟩ := hrel
    have x3 := hS.cell 1 rfl
    have x9 := hS.cell 4 rfl
    by_cases hlt : k < l.length
    · obtain ⟨x, hx⟩ := get_exU l k hlt
      have hxl := List.mem_of_getElem? hx
      have hc1 := HF.out.c1 x hxl
      have hc120 := HF.out.c120 x hxl
      have HJ := Lib.hid (jok_of HF.out hxl)
      have HM := Lib.hid (fix_step (f := cutD l) hx)
      have hcl : ((l.take k).map (cutD l) ++ l.drop k).length = l.length := by simp; omega
      have HX := Lib.hid hx
      have HGT := Lib.hid (fix_get (f := cutD l) hx)
      have hH := (HF.out.hgt hxl).1
      obtain ⟨adm, A2, c2, rfl, q0w, q1w, q2w, hl2, hr2w⟩ := kFunc_at h.hr k x hx
      clear hx
      go_wp2_with fail
      refine (depths03 A (some adm) c d X l k x _ (h.below hS.bel).hr HF.out HX.out).mono ?_
      intro e w5 hn
      obtain ⟨vd, Fd, rfl, hS1⟩ := hS.newRow hn
      obtain ⟨Ad, cd, rfl, _, _⟩ := hS1.row 0 rfl
      clear hn x3 x9 hS
      obtain ⟨ds, hds⟩ : ∃ ds, depthsL l x.code = ds := ⟨_, rfl⟩
      have HD := Lib.hid (show cutD l x = ⟨x.params, x.locals, outC x.code (goneL ds)⟩ by unfold cutD; rw [hds])
      rw [hds] at hS1 hH
      rw [hds]
      clear hds
      rw [hH] at hS1 ⊢
      go_wp2
      have hS2 := hS1.litAt (enc := Value.bool) (h1 := fun _ => rfl) (e := 4) [] #[] rfl w5.heap.size rfl 0 rfl (by simp)
      clear hS1
      go_loopw [6, 7] (fun v i wr => ∃ (j : Nat) (Fg : List Nat), j ≤ x.code.length ∧ i = .int .i64 j ∧ St w [Res.own Knd.bool 4 v (goneL (ds.take j)) Fg, Res.own (Knd.int .i64) 3 (.slice Ad x.code.length cd) ds Fd, Res.own kFunc 89 (.slice (some ⟨gF, 0, none⟩) l.length dF) ((l.take k).map (cutD l) ++ l.drop k) G, Res.box g3 (.cells #[.slice A1 X.length c1, .slice (some ⟨gF, 0, none⟩) l.length dF] 26 (0, 0)), Res.own Knd.str 9 (.slice A1 X.length c1) X F, Res.box (w.heap.size + 1) (.cells #[.slice none 0 0, .slice none 0 0] 26 (0, 0)), Res.box w.heap.size (.cells #[.slice A X.length c, .slice (some adm) l.length d] 26 (0, 0))] wr) (fun _ i _ => x.code.length - (intOf i).toNat)
      case atStart => exact ⟨0, _, by omega, rfl, hS2⟩
      case round =>
        clear hS2
        obtain ⟨j, Fg, hj, rfl, hS⟩ := hrel
        by_cases hjl : j < x.code.length
        · obtain ⟨hb, hhb⟩ := get_exU ds j (by omega)
          obtain ⟨B0, rfl, r0⟩ := (St.rowA hS 1 rfl).one j hb hhb
          have HGS := Lib.hid (goneL_snoc hhb)
          have hgl : (goneL (ds.take j)).length = j := by rw [goneL_len, List.length_take]; omega
          generalize hP : goneL (ds.take j) = P at hS hgl HGS
          have HGL := Lib.hid hgl
          clear hhb hP
          go_wp2_with (at_builtin; refine Knd.wp_app1 rfl _ _ _ rfl 4 Try.underlying106 (.bool false) 1 infoBool rfl rfl ((hS.al _).own_ 0 rfl) _ _ _ _ _ (blkAt _ _ (by simp)) rfl (by (try simp [maxLen]); (try omega)) (by (try simp); (try omega)) ?_; rintro gq cq wq hO hB hg; have hSq := (hS.al _).app1 0 rfl hO hB hg; clear hO hB hg hS; have hS := hSq; clear hSq)
          go_roundw
          case rel => exact ⟨j + 1, _, by omega, by go_num, by rw [HGS.out]; have h9 := hS; rw [HGL.out] at h9; exact h9⟩
          case measure => simp [intOf]; omega
        · obtain rfl : j = x.code.length := by omega
          have e9 : goneL (ds.take x.code.length) = goneL ds := by rw [List.take_of_length_le (by omega)]
          rw [e9] at hS
          obtain ⟨Ag, cg, rfl, _, _⟩ := hS.row 0 rfl
          have hgl : (goneL ds).length = x.code.length := by rw [goneL_len]; exact hH
          rw [hgl] at hS ⊢
          have hD := hS.drew
          have q2 := kept hD.bel q2w
          have hr2 := hr2w.below hD.bel
          have hgr : Knd.bool.Row wr.drew Ag x.code.length (goneL ds) := by have h9 := St.rowA hD 0 rfl; rw [hgl] at h9; exact h9
          obtain ⟨hc, hf⟩ := St.cellK hD 2 rfl
          have HOUT := Lib.hid (out03 A2 Ag c2 cg x.code (goneL ds) wr.drew hr2 hgr hc120 HJ.out)
          clear hjl hj hc hf
          go_wp2
          refine wp_region_held_drew (S := (fun w' => w'.cell? ⟨g3, 1, none⟩ = some (.slice (some ⟨gF, 0, none⟩) l.length dF) ∧ w'.cell? ⟨w.heap.size, 1, none⟩ = some (.slice (some adm) l.length d) ∧ w'.cell? ⟨(adm.add (k * 3)).block, (adm.add (k * 3)).off + 2, none⟩ = some (.slice A2 x.code.length c2))) (by kernel_rfl) (⟨hD.cell 3 rfl 1, hD.cell 6 rfl 1, q2⟩) (fun hHeld => ?_)
          first | (refine regW 0 (v := ?_) rfl (by rfl) (by kernel_rfl) (fun _ _ _ h => h) ?_ (by assumption) ?_; rotate_left; focus (intro w9 hSw; (try dsimp only at hSw); go_simp; (try with_reducible rfl); done)) | refine regU 0 rfl (by rfl) (by kernel_rfl) (fun _ _ _ h => h) (by assumption) ?_ | refine regN 0 rfl (by rfl) (by kernel_rfl) (by assumption) ?_
          try simp only [Act.put, List.setIfInBounds_toArray, List.set_cons_zero, List.set_cons_succ]
          first | (refine regW 1 (v := ?_) rfl (by rfl) (by kernel_rfl) (fun _ _ _ h => h) ?_ (by assumption) ?_; rotate_left; focus (intro w9 hSw; (try dsimp only at hSw); go_simp; (try with_reducible rfl); done)) | refine regU 1 rfl (by rfl) (by kernel_rfl) (fun _ _ _ h => h) (by assumption) ?_ | refine regN 1 rfl (by rfl) (by kernel_rfl) (by assumption) ?_
          try simp only [Act.put, List.setIfInBounds_toArray, List.set_cons_zero, List.set_cons_succ]
          first | (refine regW 2 (v := ?_) rfl (by rfl) (by kernel_rfl) (fun _ _ _ h => h) ?_ (by assumption) ?_; rotate_left; focus (intro w9 hSw; (try dsimp only at hSw); go_simp; (try with_reducible rfl); done)) | refine regU 2 rfl (by rfl) (by kernel_rfl) (fun _ _ _ h => h) (by assumption) ?_ | refine regN 2 rfl (by rfl) (by kernel_rfl) (by assumption) ?_
          try simp only [Act.put, List.setIfInBounds_toArray, List.set_cons_zero, List.set_cons_succ]
          first | (refine regW 3 (v := ?_) rfl (by rfl) (by kernel_rfl) (fun _ _ _ h => h) ?_ (by assumption) ?_; rotate_left; focus (intro w9 hSw; (try dsimp only at hSw); go_simp; (try with_reducible rfl); done)) | refine regU 3 rfl (by rfl) (by kernel_rfl) (fun _ _ _ h => h) (by assumption) ?_ | refine regN 3 rfl (by rfl) (by kernel_rfl) (by assumption) ?_
          try simp only [Act.put, List.setIfInBounds_toArray, List.set_cons_zero, List.set_cons_succ]
          first | (refine regW 4 (v := ?_) rfl (by rfl) (by kernel_rfl) (fun _ _ _ h => h) ?_ (by assumption) ?_; rotate_left; focus (intro w9 hSw; (try dsimp only at hSw); go_simp; (try with_reducible rfl); done)) | refine regU 4 rfl (by rfl) (by kernel_rfl) (fun _ _ _ h => h) (by assumption) ?_ | refine regN 4 rfl (by rfl) (by kernel_rfl) (by assumption) ?_
          try simp only [Act.put, List.setIfInBounds_toArray, List.set_cons_zero, List.set_cons_succ]
          first | (refine regW 5 (v := ?_) rfl (by rfl) (by kernel_rfl) (fun _ _ _ h => h) ?_ (by assumption) ?_; rotate_left; focus (intro w9 hSw; (try dsimp only at hSw); go_simp; (try with_reducible rfl); done)) | refine regU 5 rfl (by rfl) (by kernel_rfl) (fun _ _ _ h => h) (by assumption) ?_ | refine regN 5 rfl (by rfl) (by kernel_rfl) (by assumption) ?_
          try simp only [Act.put, List.setIfInBounds_toArray, List.set_cons_zero, List.set_cons_succ]
          first | (refine regW 6 (v := ?_) rfl (by rfl) (by kernel_rfl) (fun _ _ _ h => h) ?_ (by assumption) ?_; rotate_left; focus (intro w9 hSw; (try dsimp only at hSw); go_simp; (try with_reducible rfl); done)) | refine regU 6 rfl (by rfl) (by kernel_rfl) (fun _ _ _ h => h) (by assumption) ?_ | refine regN 6 rfl (by rfl) (by kernel_rfl) (by assumption) ?_
          try simp only [Act.put, List.setIfInBounds_toArray, List.set_cons_zero, List.set_cons_succ]
          first | (refine regW 7 (v := ?_) rfl (by rfl) (by kernel_rfl) (fun _ _ _ h => h) ?_ (by assumption) ?_; rotate_left; focus (intro w9 hSw; (try dsimp only at hSw); go_simp; (try with_reducible rfl); done)) | refine regU 7 rfl (by rfl) (by kernel_rfl) (fun _ _ _ h => h) (by assumption) ?_ | refine regN 7 rfl (by rfl) (by kernel_rfl) (by assumption) ?_
          try simp only [Act.put, List.setIfInBounds_toArray, List.set_cons_zero, List.set_cons_succ]
          first | (refine regW 8 (v := ?_) rfl (by rfl) (by kernel_rfl) (fun _ _ _ h => h) ?_ (by assumption) ?_; rotate_left; focus (intro w9 hSw; (try dsimp only at hSw); go_simp; (try with_reducible rfl); done)) | refine regU 8 rfl (by rfl) (by kernel_rfl) (fun _ _ _ h => h) (by assumption) ?_ | refine regN 8 rfl (by rfl) (by kernel_rfl) (by assumption) ?_
          try simp only [Act.put, List.setIfInBounds_toArray, List.set_cons_zero, List.set_cons_succ]
          first | (refine regW 9 (v := ?_) rfl (by rfl) (by kernel_rfl) (fun _ _ _ h => h) ?_ (by assumption) ?_; rotate_left; focus (intro w9 hSw; (try dsimp only at hSw); go_simp; (try with_reducible rfl); done)) | refine regU 9 rfl (by rfl) (by kernel_rfl) (fun _ _ _ h => h) (by assumption) ?_ | refine regN 9 rfl (by rfl) (by kernel_rfl) (by assumption) ?_
          try simp only [Act.put, List.setIfInBounds_toArray, List.set_cons_zero, List.set_cons_succ]
          refine regC 10 rfl (by kernel_rfl) (by rfl) (fun Kq hKq => ?_)
          go_simp
          (with_reducible refine (HOUT.out).mono ?_)
          intro e w7 hn; obtain ⟨v7, F7, rfl, hT⟩ := hD.newRow hn; obtain ⟨A7, c7, rfl, _, _⟩ := hT.row 0 rfl; clear hn
          try go_wp2_with fail
          refine hKq.out _ _ (⟨hT.cell 4 rfl 1, hT.cell 7 rfl 1, kept hT.bel q2w⟩) (fun hHeld => ?_)
          clear hKq Kq
          (try simp only [Act.put, List.setIfInBounds_toArray, List.set_cons_zero, List.set_cons_succ])
          first | (refine regW 11 (v := ?_) rfl (by rfl) (by kernel_rfl) (fun _ _ _ h => h) ?_ (by assumption) ?_; rotate_left; focus (intro w9 hSw; (try dsimp only at hSw); go_simp; (try with_reducible rfl); done)) | refine regU 11 rfl (by rfl) (by kernel_rfl) (fun _ _ _ h => h) (by assumption) ?_ | refine regN 11 rfl (by rfl) (by kernel_rfl) (by assumption) ?_
          try simp only [Act.put, List.setIfInBounds_toArray, List.set_cons_zero, List.set_cons_succ]
          first | (refine regW 12 (v := ?_) rfl (by rfl) (by kernel_rfl) (fun _ _ _ h => h) ?_ (by assumption) ?_; rotate_left; focus (intro w9 hSw; (try dsimp only at hSw); go_simp; (try with_reducible rfl); done)) | refine regU 12 rfl (by rfl) (by kernel_rfl) (fun _ _ _ h => h) (by assumption) ?_ | refine regN 12 rfl (by rfl) (by kernel_rfl) (by assumption) ?_
          try simp only [Act.put, List.setIfInBounds_toArray, List.set_cons_zero, List.set_cons_succ]
          have hcl : ((l.take k).map (cutD l) ++ l.drop k).length = l.length := by simp; omega
          obtain ⟨hc, hf⟩ := St.cellK hT 3 rfl
          rw [hcl] at hc
          have hc3 : ∀ j, j < l.length * 3 → ∃ u, w7.cell? ⟨gF, j, none⟩ = some u := hc
          obtain ⟨u9, s9⟩ := hc3 (k * 3 + 2) (by omega)
          have f9 := hf (k * 3 + 2)
          have hT2 := hT.front 3 rfl
          have hT3 := hT2.front 1 rfl
          obtain ⟨G', hP⟩ := St.putCode hT3 HGT.out
          have HP := Lib.hid hP
          clear hc hc3 hf hcl hP
          clear hT hT2 hT3 hD hS q2
          refine regC 13 rfl (by kernel_rfl) (by rfl) (fun Kq hKq => ?_)
          go_simp
          refine hKq.out _ _ (⟨HP.out.cell 3 rfl 1, HP.out.cell 6 rfl 1, kept HP.out.bel q2w⟩) (fun hHeld => ?_)
          clear hKq Kq
          (try simp only [Act.put, List.setIfInBounds_toArray, List.set_cons_zero, List.set_cons_succ])
          refine wpAnyH_done (by kernel_rfl) ?_ _
          clear hHeld
          go_wp2
          go_roundw
          case rel => exact ⟨k + 1, G', by omega, by go_num, by have h9 := ((HP.out.front 1 rfl).drop.front 1 rfl).drop; have h8 := HM.out; rw [HD.out] at h8; rw [h8] at h9; exact h9⟩
          case measure => simp [intOf]; omega
    · obtain rfl : k = l.length := by omega
      have e9 : (l.take l.length).map (cutD l) ++ l.drop l.length = l.map (cutD l) := by simp
      rw [e9] at hS
      have x0 := hS.cell 3 rfl
      have f0 := hS.free 3 rfl
      go_wp2
      have hS2 := (hS.set 3 rfl 0 (.slice A1 X.length c1)).set 3 rfl 1 (.slice (some ⟨gF, 0, none⟩) l.length dF)
      have y0 := hS2.cell 3 rfl 0
      have y1 := hS2.cell 3 rfl 1
      refine bodyPost_ret (v := .agg #[.slice A1 X.length c1, .slice (some ⟨gF, 0, none⟩) l.length dF]) (by simp [results, Try.results17, go_sem, *]) rfl ?_
      exact ⟨_, _, _, _, rfl, (hS2.front 2 rfl).pick2 0 rfl⟩
end Go.Proofs.Yticlknijmnddeaa.Dat

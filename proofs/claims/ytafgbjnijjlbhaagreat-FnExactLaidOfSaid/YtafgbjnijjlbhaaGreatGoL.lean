/- The functions that are laid in. -/
import Derived.Test.YtafgbjnijjlbhaaGreatGoI
namespace Go.Proofs.YtafgbjnijjlbhaaGreat.Dat
open Go Go.RowKit Go.Proofs.YtafgbjnijjlbhaaGreat.Mem
set_option linter.unusedVariables false
set_option linter.unusedSimpArgs false
theorem laid_small (t : List ByteArray) (l : List DFunc) (c : DFast) : (laidL t l c).length ≤ 1048576 := by
  unfold laidL
  cases hf : fastOkB t l c
  · simp
  · have hb := fastOk_fast hf
    have h1 := (fast_len hb).2.2
    have h2 := laidZ_len c.exits (fun x hx => (exit_frames (fast_exit hb x hx)).2.1)
    have h3 := ascL_len (laidZ c.exits)
    simp only [if_true]
    omega
theorem add_add (ad : Addr) (a b : Nat) : (ad.add a).add b = ad.add (a + b) := by
  unfold Addr.add
  by_cases ha : a = 0
  · subst ha
    simp
  · rw [if_neg ha]
    by_cases hb : b = 0
    · subst hb
      rw [if_pos rfl, if_neg (by omega)]
      rfl
    · rw [if_neg hb, if_neg (by omega)]
      congr 1
      simp only
      omega
theorem laidZ_le {es : List DExit} (h : ∀ x ∈ es, x.frames.length ≤ 4) (hn : es.length ≤ 1500) (k : Nat) : (laidZ (es.take k)).length ≤ 4500 := by
  have h1 := laidZ_len (es.take k) (fun x hx => h x (List.mem_of_mem_take hx))
  rw [List.length_take] at h1
  omega
set_option maxHeartbeats 8000000 in
set_option maxRecDepth 100000 in
theorem laidF (A4 A5 : Option Addr) (c4 c5 : Nat) (c : DFast) (w : World) (r5 : kExit.Row w A5 c.exits.length c.exits) (hx4 : ∀ x ∈ c.exits, 1 ≤ x.frames.length ∧ x.frames.length ≤ 4) (hn : c.exits.length ≤ 1500) :
    Calls Tryz.prog 72 #[.agg #[.int .i64 c.fn, .int .i64 c.entry, .int .i64 c.vals, .int .i64 c.nums, .slice A4 c.ops.length c4, .slice A5 c.exits.length c5]] w (NewRow (Knd.int .i64) 3 (ascL (laidZ c.exits)) w) := by
  have hZ := laidZ_le (fun x hx => (hx4 x hx).2) hn
  have hS := (St.start w).made (.cells #[.int .i64 c.fn, .int .i64 c.entry, .int .i64 c.vals, .int .i64 c.nums, .slice A4 c.ops.length c4, .slice A5 c.exits.length c5] 40 (0, 0))
  have hT := hS.emptyV (Knd.int .i64) 3 (w.heap.size + 1) (by simp)
  go_enter Tryz.func72, Tryz.ntmps72
  go_wp2
  go_loopw [3, 12] (fun v i wr => ∃ (k : Nat) (F : List Nat), k ≤ c.exits.length ∧ i = .int .i64 k ∧ St w [Res.own (Knd.int .i64) 3 v (laidZ (c.exits.take k)) F, Res.box w.heap.size (.cells #[.int .i64 c.fn, .int .i64 c.entry, .int .i64 c.vals, .int .i64 c.nums, .slice A4 c.ops.length c4, .slice A5 c.exits.length c5] 40 (0, 0))] wr) (fun _ i _ => c.exits.length - (intOf i).toNat)
  case atStart => exact ⟨0, _, by omega, rfl, hT⟩
  case round =>
    clear hS hT
    obtain ⟨k, F, hk, rfl, hS⟩ := hrel
    have hZk := hZ k
    obtain ⟨Av, cv, rfl, _, _⟩ := hS.row 0 rfl
    by_cases hlt : k < c.exits.length
    rotate_left
    · obtain rfl : k = c.exits.length := by omega
      rw [List.take_length] at hS hZk ⊢
      have hI := ints_own (hS.own_ 0 rfl)
      have C := ascI _ _ cv (by omega) _ hI
      clear hI hZ
      go_wp2_with fail
      refine C.mono ?_
      intro e w3 hnr
      obtain ⟨v, F3, rfl, hS3⟩ := hS.newRow hnr
      clear hnr
      go_wp2
      go_ret
      exact hS3.outRow 0 rfl
    obtain ⟨x, hx⟩ := get_exU c.exits k hlt
    obtain ⟨hx1, hx2⟩ := hx4 x (List.mem_of_getElem? hx)
    obtain ⟨ad, AF, AR, cf, cr, rfl, q0, q1, q2, q3, q4, q5, q6, hlF, rF, _, _⟩ := kExit_at r5 k x hx
    obtain ⟨y0, hy0⟩ := get_exU x.frames 0 (by omega)
    obtain ⟨adF, _, _, _, _, rfl, _⟩ := kExFrame_at rF 0 y0 hy0
    have HL := Lib.hid (laidZ_snoc hx)
    have u0 := kept hS.bel q0
    have u1 := kept hS.bel q1
    have u2 := kept hS.bel q2
    have u3 := kept hS.bel q3
    have u4 := kept hS.bel q4
    have u5 := kept hS.bel q5
    have u6 := kept hS.bel q6
    obtain ⟨g8, hg8⟩ : ∃ g8, wr.heap.size = g8 := ⟨_, rfl⟩
    have hT := hS.madeAt (.cells #[.int .i64 x.kind, .int .i64 x.spec.fn, .int .i64 x.spec.pc, .int .i64 x.spec.kind, .int .i64 x.spec.target, .slice (some adF) x.frames.length cf, .slice AR x.recs.length cr] 133 (0, 0)) g8 hg8
    clear q0 q1 q2 q3 q4 q5 q6 hx hy0
    by_cases hc1 : cf = 1
    · have hf1 : x.frames.length = 1 := by omega
      have HF0 := Lib.hid (show frZ x.frames = [] by unfold frZ; rw [List.drop_eq_nil_of_le (by omega)]; rfl)
      subst hc1
      rw [hf1] at u5 hT
      clear hS hf1 hx1 hx2 hlF
      go_wp2
      go_loopw [3, 20] (fun v i wr2 => v = .slice Av (laidZ (c.exits.take k)).length cv ∧ i = .int .i64 0 ∧ St w [Res.box g8 (.cells #[.int .i64 x.kind, .int .i64 x.spec.fn, .int .i64 x.spec.pc, .int .i64 x.spec.kind, .int .i64 x.spec.target, .slice (some adF) 1 1, .slice AR x.recs.length cr] 133 (0, 0)), Res.own (Knd.int .i64) 3 (.slice Av (laidZ (c.exits.take k)).length cv) (laidZ (c.exits.take k)) F, Res.box w.heap.size (.cells #[.int .i64 c.fn, .int .i64 c.entry, .int .i64 c.vals, .int .i64 c.nums, .slice A4 c.ops.length c4, .slice (some ad) c.exits.length c5] 40 (0, 0))] wr2) (fun _ i _ => 0)
      case atStart => exact ⟨rfl, rfl, hT⟩
      case round =>
        clear hT
        obtain ⟨rfl, rfl, hT⟩ := hrel
        go_wp2
        go_roundw
        case rel => exact ⟨k + 1, F, by omega, by go_num, by rw [HL.out, HF0.out, List.append_nil]; exact (hT.front 0 rfl).drop⟩
        case measure => simp [intOf]; omega
    · have hcf : 1 < cf := by omega
      obtain ⟨n1, hn1⟩ : ∃ n1, x.frames.length = n1 + 1 := ⟨x.frames.length - 1, by omega⟩
      have HN1 := Lib.hid hn1
      have n14 : n1 ≤ 3 := by omega
      rw [hn1] at u5 hT hlF
      clear hS hc1 hn1 hx1 hx2
      go_wp2
      go_loopw [3, 20] (fun v i wr2 => ∃ (m : Nat) (F : List Nat), m ≤ n1 ∧ i = .int .i64 m ∧ St w [Res.own (Knd.int .i64) 3 v (laidZ (c.exits.take k) ++ ((x.frames.drop 1).take m).map (fun f => f.fn)) F, Res.box g8 (.cells #[.int .i64 x.kind, .int .i64 x.spec.fn, .int .i64 x.spec.pc, .int .i64 x.spec.kind, .int .i64 x.spec.target, .slice (some adF) (n1 + 1) cf, .slice AR x.recs.length cr] 133 (0, 0)), Res.box w.heap.size (.cells #[.int .i64 c.fn, .int .i64 c.entry, .int .i64 c.vals, .int .i64 c.nums, .slice A4 c.ops.length c4, .slice (some ad) c.exits.length c5] 40 (0, 0))] wr2) (fun _ i _ => n1 - (intOf i).toNat)
      case atStart => exact ⟨0, F, by omega, rfl, by simpa using hT.front 1 rfl⟩
      case round =>
        clear hT
        obtain ⟨m, F, hm, rfl, hT⟩ := hrel
        obtain ⟨Av, cv, rfl, _, _⟩ := hT.row 0 rfl
        by_cases hlm : m < n1
        rotate_left
        · obtain rfl : m = n1 := by omega
          have HM := Lib.hid (show laidZ (c.exits.take k) ++ ((x.frames.drop 1).take m).map (fun f => f.fn) = laidZ (c.exits.take (k + 1)) by
            rw [HL.out, ← frZ_all x.frames, HN1.out]
            rfl)
          rw [HM.out] at hT ⊢
          go_wp2
          go_roundw
          case rel => exact ⟨k + 1, F, by omega, by go_num, (hT.front 1 rfl).drop⟩
          case measure => simp [intOf]; omega
        obtain ⟨f, hf⟩ := get_exU x.frames (m + 1) (by rw [HN1.out]; omega)
        obtain ⟨adQ, A2, A3, c2, c3, hadQ, p0, p1, p2, p3, _⟩ := kExFrame_at rF (m + 1) f hf
        obtain rfl := Option.some.inj hadQ
        have eA : adF.add ((m + 1) * 4) = ⟨adF.block, adF.off + 4 + m * 4, none⟩ := by
          unfold Addr.add
          rw [if_neg (by omega)]
          congr 1
          omega
        rw [eA] at p0 p1 p2 p3
        dsimp only at p1 p2 p3
        have HF := Lib.hid (frZ_snoc (fs := x.frames) (k := m) (f := f) (by rw [List.getElem?_drop, Nat.add_comm]; exact hf))
        have v0 := kept hT.bel p0
        have v1 := kept hT.bel p1
        have v2 := kept hT.bel p2
        have v3 := kept hT.bel p3
        have hS := hT.made (.cells #[.int .i64 f.fn, .int .i64 f.pc, .slice A2 f.locals.length c2, .slice A3 f.stack.length c3] 139 (0, 0))
        have hlz : (laidZ (c.exits.take k) ++ ((x.frames.drop 1).take m).map (fun f => f.fn)).length ≤ 5000 := by
          rw [List.length_append, List.length_map, List.length_take]
          omega
        obtain ⟨ZZ, hZZ⟩ : ∃ ZZ, laidZ (c.exits.take k) ++ ((x.frames.drop 1).take m).map (fun f => f.fn) = ZZ := ⟨_, rfl⟩
        rw [hZZ] at hS hlz ⊢
        have HZZ := Lib.hid hZZ
        clear hT p0 p1 p2 p3 eA hf hZZ
        go_wp2_with (at_builtin; refine Knd.wp_app1 rfl _ _ _ rfl 3 Tryz.underlying45 (.int .i64 0) 8 infoInt rfl rfl ((hS.al _).own_ 1 rfl) _ _ _ _ _ (blkAt _ _ (by simp)) rfl (by (try simp [maxLen]); (try omega)) (by (try simp); (try omega)) ?_; rintro gq cq wq hO hB hg; have hSq := (hS.al _).app1 1 rfl hO hB hg; clear hO hB hg hS; have hS := hSq; clear hSq)
        go_roundw
        case rel => exact ⟨m + 1, _, by omega, by go_num, by rw [HF.out, ← List.append_assoc, HZZ.out]; exact hS.drop⟩
        case measure => simp [intOf]; omega
set_option maxHeartbeats 8000000 in
set_option maxRecDepth 100000 in
theorem laid10 (A B A4 A5 : Option Addr) (c0 d0 c4 c5 : Nat) (t : List ByteArray) (l : List DFunc) (c : DFast) (w : World) (hl : l.length ≤ 12) (r5 : kExit.Row w A5 c.exits.length c.exits) (hx4 : ∀ x ∈ c.exits, 1 ≤ x.frames.length ∧ x.frames.length ≤ 4) (hz : ∀ z ∈ laidZ c.exits, 0 ≤ z ∧ z < l.length) (hn : c.exits.length ≤ 1500) :
    Calls Tryz.prog 71 #[.agg #[.slice A t.length c0, .slice B l.length d0], .agg #[.int .i64 c.fn, .int .i64 c.entry, .int .i64 c.vals, .int .i64 c.nums, .slice A4 c.ops.length c4, .slice A5 c.exits.length c5]] w (NewRow (Knd.int .i64) 3 (ascL (laidZ c.exits)) w) := by
  have eA := laid_asc hz
  have hzk : ∀ (k m : Nat) (x : DExit), c.exits[k]? = some x → ∀ f ∈ x.frames.drop 1, 0 ≤ f.fn ∧ f.fn < l.length := fun k m x hx f hf => hz _ (List.mem_flatten.2 ⟨_, List.mem_map.2 ⟨x, List.mem_of_getElem? hx, rfl⟩, List.mem_map.2 ⟨f, hf, rfl⟩⟩)
  rw [eA]
  clear eA hz
  have hS := ((St.start w).made (.cells #[.slice A t.length c0, .slice B l.length d0] 35 (0, 0))).madeAt (.cells #[.int .i64 c.fn, .int .i64 c.entry, .int .i64 c.vals, .int .i64 c.nums, .slice A4 c.ops.length c4, .slice A5 c.exits.length c5] 40 (0, 0)) (w.heap.size + 1) (by simp)
  go_enter Tryz.func71, Tryz.ntmps71
  have x_m := hS.cell 1 rfl
  go_wp2_with (refine Knd.wp_made Knd.bool rfl _ _ _ rfl l.length rfl rfl 4 Tryz.underlying195 (.bool false) 1 infoBool rfl (by decide) (by omega) false (fun _ => ⟨rfl, rfl⟩) (by omega) ?_; rintro g w3 hg ho hb hq; have hSm := hS.madeRow ho hg hb; clear hg ho hb hq)
  clear x_m hS
  go_loopw [6] (fun i wr => ∃ (k : Nat), k ≤ c.exits.length ∧ i = .int .i64 k ∧ St w [Res.own Knd.bool 4 (.slice (some ⟨g, 0, none⟩) l.length l.length) ((laidZ (c.exits.take k)).foldl markZ (List.replicate l.length false)) [g], Res.box (w.heap.size + 1) (.cells #[.int .i64 c.fn, .int .i64 c.entry, .int .i64 c.vals, .int .i64 c.nums, .slice A4 c.ops.length c4, .slice A5 c.exits.length c5] 40 (0, 0)), Res.box w.heap.size (.cells #[.slice A t.length c0, .slice B l.length d0] 35 (0, 0))] wr) (fun i _ => c.exits.length - (intOf i).toNat)
  case atStart => exact ⟨0, by omega, rfl, hSm⟩
  case round =>
    clear hSm
    obtain ⟨k, hk, rfl, hS⟩ := hrel
    have x_f := hS.cell 1 rfl
    by_cases hlt : k < c.exits.length
    rotate_left
    · obtain rfl : k = c.exits.length := by omega
      rw [List.take_length] at hS
      have hml : ((laidZ c.exits).foldl markZ (List.replicate l.length false)).length = l.length := by rw [markZ_len, List.length_replicate]
      have hR := St.rowA hS 0 rfl
      have C := fun w' hb => mark03 (some ⟨g, 0, none⟩) l.length ((laidZ c.exits).foldl markZ (List.replicate l.length false)) w' (hR.below hb) (by omega)
      rw [hml] at C
      have HC := Lib.hid C
      clear C hml hR
      go_wp2_with fail
      refine (HC.out _ (Below.refl _ _)).mono ?_
      intro e w4 hnr
      obtain ⟨v, F, rfl, hS4⟩ := hS.newRow hnr
      clear hnr
      go_wp2
      go_ret
      exact hS4.outRow 0 rfl
    obtain ⟨x, hx⟩ := get_exU c.exits k hlt
    obtain ⟨hx1, hx2⟩ := hx4 x (List.mem_of_getElem? hx)
    have hzx := hzk k 0 x hx
    obtain ⟨ad, AF, AR, cf, cr, rfl, _, _, q2, q3, q4, q5, q6, hlF, rF, _, _⟩ := kExit_at r5 k x hx
    have HL := Lib.hid (laidZ_snoc hx)
    obtain ⟨n1, hn1⟩ : ∃ n1, x.frames.length = n1 + 1 := ⟨x.frames.length - 1, by omega⟩
    have HN1 := Lib.hid hn1
    have n14 : n1 ≤ 3 := by omega
    rw [hn1] at q5
    clear hx hn1 hx1 hx2 hzk hlF q2 q3 q4 q6
    go_wp2
    clear x_f
    go_loopw [7] (fun i wr2 => ∃ (m : Nat), m ≤ n1 ∧ i = .int .i64 (m + 1 : Nat) ∧ St w [Res.own Knd.bool 4 (.slice (some ⟨g, 0, none⟩) l.length l.length) ((laidZ (c.exits.take k) ++ ((x.frames.drop 1).take m).map (fun f => f.fn)).foldl markZ (List.replicate l.length false)) [g], Res.box (w.heap.size + 1) (.cells #[.int .i64 c.fn, .int .i64 c.entry, .int .i64 c.vals, .int .i64 c.nums, .slice A4 c.ops.length c4, .slice (some ad) c.exits.length c5] 40 (0, 0)), Res.box w.heap.size (.cells #[.slice A t.length c0, .slice B l.length d0] 35 (0, 0))] wr2) (fun i _ => n1 + 1 - (intOf i).toNat)
    case atStart => exact ⟨0, by omega, rfl, by simpa using hS⟩
    case round =>
      clear hS
      obtain ⟨m, hm, rfl, hS⟩ := hrel
      have x_f := hS.cell 1 rfl
      have u5 := kept hS.bel q5
      by_cases hlm : m < n1
      rotate_left
      · obtain rfl : m = n1 := by omega
        have HM := Lib.hid (show laidZ (c.exits.take k) ++ ((x.frames.drop 1).take m).map (fun f => f.fn) = laidZ (c.exits.take (k + 1)) by
          rw [HL.out, ← frZ_all x.frames, HN1.out]
          rfl)
        rw [HM.out] at hS
        go_wp2
        go_roundw
        case rel => exact ⟨k + 1, by omega, by go_num, hS⟩
        case measure => simp [intOf]; omega
      obtain ⟨f, hf⟩ := get_exU x.frames (m + 1) (by rw [HN1.out]; omega)
      have hfd : (x.frames.drop 1)[m]? = some f := by rw [List.getElem?_drop, Nat.add_comm]; exact hf
      have hfr := hzx f (List.mem_of_getElem? hfd)
      obtain ⟨adF, _, _, _, _, rfl, p0, _⟩ := kExFrame_at rF (m + 1) f hf
      have HF := Lib.hid (frZ_snoc hfd)
      obtain ⟨j, hj⟩ : ∃ j : Nat, f.fn = j := ⟨f.fn.toNat, by omega⟩
      rw [hj] at p0 hfr HF
      have v0 := kept hS.bel p0
      have j1 : j < l.length := by omega
      obtain ⟨ZM, hZM⟩ : ∃ ZM, (laidZ (c.exits.take k) ++ ((x.frames.drop 1).take m).map (fun f => f.fn)).foldl markZ (List.replicate l.length false) = ZM := ⟨_, rfl⟩
      have hml : ZM.length = l.length := by rw [← hZM, markZ_len, List.length_replicate]
      rw [hZM] at hS
      have HZM := Lib.hid hZM
      obtain ⟨b1, k1⟩ := get_exU ZM j (by omega)
      have y0 := hS.cell1 0 rfl j b1 k1
      have fz := hS.free1 0 rfl j
      have hQ := Lib.hid (hS.put1 0 rfl j (by omega) true)
      have HE := Lib.hid (show (laidZ (c.exits.take k) ++ ((x.frames.drop 1).take (m + 1)).map (fun f => f.fn)).foldl markZ (List.replicate l.length false) = ZM.set j true by
        rw [HF.out, ← List.append_assoc, List.foldl_append, HZM.out]
        rfl)
      clear hf hfd hj hZM k1 hml p0
      go_wp2
      go_roundw
      case rel => exact ⟨m + 1, by omega, by go_num, by rw [HE.out]; exact hQ.out⟩
      case measure => simp [intOf]; omega
set_option maxHeartbeats 4000000 in
set_option maxRecDepth 100000 in
theorem laidI (A B A4 A5 : Option Addr) (c0 d0 c4 c5 : Nat) (t : List ByteArray) (l : List DFunc) (c : DFast) (w : World) (h : HasMod A B t l w) (r4 : kFOp.Row w A4 c.ops.length c.ops) (r5 : kExit.Row w A5 c.exits.length c.exits) (hM : MFast c) (hms : msFast c ≤ 1048576) {X : List Int} (hX : laidL t l c = X) :
    Calls Tryz.prog 30 #[.agg #[.slice A t.length c0, .slice B l.length d0], .agg #[.int .i64 c.fn, .int .i64 c.entry, .int .i64 c.vals, .int .i64 c.nums, .slice A4 c.ops.length c4, .slice A5 c.exits.length c5]] w (NewRow (Knd.int .i64) 3 X w) := by
  subst hX
  have hS := ((St.start w).made (.cells #[.slice A t.length c0, .slice B l.length d0] 35 (0, 0))).madeAt (.cells #[.int .i64 c.fn, .int .i64 c.entry, .int .i64 c.vals, .int .i64 c.nums, .slice A4 c.ops.length c4, .slice A5 c.exits.length c5] 40 (0, 0)) (w.heap.size + 1) (by simp)
  cases hf : fastOkB t l c
  · have e : laidL t l c = [] := by unfold laidL; rw [hf]; rfl
    rw [e]
    have HF := Lib.hid hf
    clear hf e
    go_enter Tryz.func30, Tryz.ntmps30
    go_wp2_with fail
    refine (fastOkI A B A4 A5 c0 d0 c4 c5 t l c _ (h.below hS.bel) (r4.below hS.bel) (r5.below hS.bel) hM hms HF.out).mono ?_
    rintro e w1 ⟨rfl, hb⟩
    replace hS := hS.step hb
    clear hb
    go_wp2
    go_ret
    exact newNil _ _ _ _ hS.bel
  have e : laidL t l c = ascL (laidZ c.exits) := by unfold laidL; rw [hf]; rfl
  rw [e]
  have hb9 := fastOk_fast hf
  have hl9 := (fast_len hb9).2.2
  have hx4 := fun x (hx : x ∈ c.exits) => (fun q : 1 ≤ x.frames.length ∧ x.frames.length ≤ 4 ∧ _ => (⟨q.1, q.2.1⟩ : 1 ≤ x.frames.length ∧ x.frames.length ≤ 4)) (exit_frames (fast_exit hb9 x hx))
  have hm : l.length ≤ 12 := (modFit (isGood_mod (by unfold fastOkB at hf; rw [Bool.and_eq_true] at hf; exact hf.1))).n12
  have HF := Lib.hid hf
  clear hf e
  go_enter Tryz.func30, Tryz.ntmps30
  go_wp2_with fail
  refine (fastOkI A B A4 A5 c0 d0 c4 c5 t l c _ (h.below hS.bel) (r4.below hS.bel) (r5.below hS.bel) hM hms HF.out).mono ?_
  rintro e w1 ⟨rfl, hb⟩
  replace hS := hS.step hb
  clear hb
  have x_f := hS.cell 0 rfl
  have x_m := hS.cell 1 rfl
  go_wp2_with fail
  refine (laidF A4 A5 c4 c5 c _ (r5.below hS.bel) hx4 hl9).mono ?_
  intro e w3 hnr
  obtain ⟨v, F3, rfl, hS3⟩ := hS.newRow hnr
  clear hnr
  go_wp2
  go_ret
  exact hS3.outRow 0 rfl
set_option maxHeartbeats 4000000 in
set_option maxRecDepth 100000 in
theorem laid3 (A B A4 A5 : Option Addr) (c0 d0 c4 c5 : Nat) (t : List ByteArray) (l : List DFunc) (c : DFast) (w : World) (h : HasMod A B t l w) (r4 : kFOp.Row w A4 c.ops.length c.ops) (r5 : kExit.Row w A5 c.exits.length c.exits) (hM : MFast c) (hms : msFast c ≤ 1048576) {X : List Int} (hX : laidL t l c = X) :
    Calls Tryz.prog 29 #[.agg #[.slice A t.length c0, .slice B l.length d0], .agg #[.int .i64 c.fn, .int .i64 c.entry, .int .i64 c.vals, .int .i64 c.nums, .slice A4 c.ops.length c4, .slice A5 c.exits.length c5]] w (NewRow (Knd.int .i64) 3 X w) := by
  subst hX
  have hS := ((St.start w).made (.cells #[.slice A t.length c0, .slice B l.length d0] 35 (0, 0))).madeAt (.cells #[.int .i64 c.fn, .int .i64 c.entry, .int .i64 c.vals, .int .i64 c.nums, .slice A4 c.ops.length c4, .slice A5 c.exits.length c5] 40 (0, 0)) (w.heap.size + 1) (by simp)
  cases hf : fastOkB t l c
  · have e : laidL t l c = [] := by unfold laidL; rw [hf]; rfl
    rw [e]
    have HF := Lib.hid hf
    clear hf e
    go_enter Tryz.func29, Tryz.ntmps29
    go_wp2_with fail
    refine (fastOk3 A B A4 A5 c0 d0 c4 c5 t l c _ (h.below hS.bel) (r4.below hS.bel) (r5.below hS.bel) hM hms HF.out).mono ?_
    rintro e w1 ⟨rfl, hb⟩
    replace hS := hS.step hb
    clear hb
    have hS2 := hS.emptyV (Knd.int .i64) 3 w1.heap.size rfl
    go_wp2
    go_ret
    exact hS2.outRow 0 rfl
  have e : laidL t l c = ascL (laidZ c.exits) := by unfold laidL; rw [hf]; rfl
  rw [e]
  have hb9 := fastOk_fast hf
  have hl9 := (fast_len hb9).2.2
  have hx4 := fun x (hx : x ∈ c.exits) => (fun q : 1 ≤ x.frames.length ∧ x.frames.length ≤ 4 ∧ _ => (⟨q.1, q.2.1⟩ : 1 ≤ x.frames.length ∧ x.frames.length ≤ 4)) (exit_frames (fast_exit hb9 x hx))
  have hm : l.length ≤ 12 := (modFit (isGood_mod (by unfold fastOkB at hf; rw [Bool.and_eq_true] at hf; exact hf.1))).n12
  have HF := Lib.hid hf
  clear hf e
  go_enter Tryz.func29, Tryz.ntmps29
  go_wp2_with fail
  refine (fastOk3 A B A4 A5 c0 d0 c4 c5 t l c _ (h.below hS.bel) (r4.below hS.bel) (r5.below hS.bel) hM hms HF.out).mono ?_
  rintro e w1 ⟨rfl, hb⟩
  replace hS := hS.step hb
  clear hb
  have x_f := hS.cell 0 rfl
  have x_m := hS.cell 1 rfl
  go_wp2_with fail
  refine (laid10 A B A4 A5 c0 d0 c4 c5 t l c _ hm (r5.below hS.bel) hx4 (laidZ_rng hb9) hl9).mono ?_
  intro e w3 hnr
  obtain ⟨v, F3, rfl, hS3⟩ := hS.newRow hnr
  clear hnr
  go_wp2
  go_ret
  exact hS3.outRow 0 rfl
end Go.Proofs.YtafgbjnijjlbhaaGreat.Dat

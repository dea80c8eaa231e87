/- impl.save. -/
import Derived.Test.YtgnibbhcbdmigaaSave
import Derived.Test.YtgnibbhcbdmigaaSaveBy
namespace Go.Proofs.Ytgnibbhcbdmigaa.Dat
open Go Go.RowKit Go.Proofs.Ytgnibbhcbdmigaa.Mem
set_option linter.unusedVariables false
set_option linter.unusedSimpArgs false
/-- The bounds that a module keeps that is as it must be. -/
structure Small (t : List ByteArray) (l : List DFunc) : Prop where
  nt : t.length ≤ 20
  st : ∀ s ∈ t, s.size ≤ 60
  nf : l.length ≤ 12
  pa : ∀ x ∈ l, 0 ≤ x.params ∧ x.params ≤ 12 ∧ 0 ≤ x.locals ∧ x.locals ≤ 12 ∧ x.code.length ≤ 120
  co : ∀ x ∈ l, ∀ y ∈ x.code, 0 ≤ y.op ∧ y.op ≤ 26 ∧ -1000000000 ≤ y.a ∧ y.a ≤ 1000000000
theorem strBy_len {s : ByteArray} (h : s.size ≤ 60) : (strBy s).length ≤ 66 := by
  have h1 := numB_len (n := (s.size : Int)) (by omega) (by omega)
  have h2 : (chars s).length = s.size := by rw [chars, List.length_map]; rfl
  rw [strBy, List.length_append]
  omega
theorem grow_len {a b : List Int} {N : Nat} (h : a.length ≤ N) (h' : b.length ≤ 6) : (a ++ b).length ≤ N + 6 := by
  rw [List.length_append]
  omega
theorem grew_far {F F0 : List Nat} {B s g7 : Nat} (h : ∀ g ∈ F0, g ∈ F ∨ s ≤ g) (hF : ∀ g ∈ F, B ≤ g ∧ g ≠ g7) (h7 : g7 < s) (hB : B ≤ s) : ∀ g ∈ F0, B ≤ g ∧ g ≠ g7 := fun g hg => by
  rcases h g hg with h | h
  · exact hF g h
  · omega
theorem grow_own {e : Nat} {w : World} {v : Value} {a : List Int} {n : Int} {F : List Nat} {N : Nat} (ho : (Knd.int .u8).Own e w v (a ++ varB (zig n)) F) (h : Hid (a.length ≤ N)) (h1 : -1099511627776 ≤ n) (h2 : n ≤ 1099511627776) : Hid ((a ++ varB (zig n)).length ≤ N + 6) := Lib.hid (grow_len h.out (numB_len h1 h2))
theorem insBy_len {y : DIns} (h : 0 ≤ y.op ∧ y.op ≤ 26 ∧ -1000000000 ≤ y.a ∧ y.a ≤ 1000000000) : (insBy y).length ≤ 12 := by
  have h1 := numB_len (n := y.op) (by omega) (by omega)
  have h2 := numB_len (n := y.a) (by omega) (by omega)
  rw [insBy, List.length_append]
  omega
theorem funcBy_len {x : DFunc} (h : 0 ≤ x.params ∧ x.params ≤ 12 ∧ 0 ≤ x.locals ∧ x.locals ≤ 12 ∧ x.code.length ≤ 120) (hc : ∀ y ∈ x.code, 0 ≤ y.op ∧ y.op ≤ 26 ∧ -1000000000 ≤ y.a ∧ y.a ≤ 1000000000) : (funcBy x).length ≤ 1458 := by
  have h1 := numB_len (n := x.params) (by omega) (by omega)
  have h2 := numB_len (n := x.locals) (by omega) (by omega)
  have h3 := numB_len (n := (x.code.length : Int)) (by omega) (by omega)
  have h4 := flat_len insBy 12 x.code (fun y hy => insBy_len (hc y hy))
  have h5 : x.code.length * 12 ≤ 1440 := by omega
  simp only [funcBy, List.length_append]
  omega
set_option maxHeartbeats 4000000 in
theorem saveI (A B : Option Addr) (c d : Nat) (t : List ByteArray) (l : List DFunc) (w : World) (ht : Knd.str.Row w A t.length t) (hr : kFunc.Row w B l.length l) (hs : Small t l) :
    Calls Try.prog 55 #[.agg #[.slice A t.length c, .slice B l.length d]] w (NewRow (Knd.int .u8) 5 (saveBy t l) w) := by
  have n1 := hs.nt
  have n2 := hs.nf
  go_enter Try.func55, Try.ntmps55
  go_wp2_with fail
  refine (putNum (.slice none 0 0) [] t.length [] _ (Knd.Own.nil _ _ _) (by omega) (by omega) (by simp)).mono ?_
  rintro e w1 ⟨v, F1, rfl, ho, hB, hF⟩
  have hbox := blk_new w (.cells #[.slice A t.length c, .slice B l.length d] 32 (0, 0))
  have hM : w1.heap[w.heap.size]? = some (.cells #[.slice A t.length c, .slice B l.length d] 32 (0, 0)) := (hB.block _ (by simp) (by simp)).trans hbox
  have m0 : w1.cell? ⟨w.heap.size, 0, none⟩ = some (.slice A t.length c) := blk_cell hM 0
  have m1 : w1.cell? ⟨w.heap.size, 1, none⟩ = some (.slice B l.length d) := blk_cell hM 1
  have hb1 : Below w.heap.size w w1 := hB.below (bl_alloc (Below.refl _ _) _) (by simp)
  have hF1 : ∀ g ∈ F1, w.heap.size + 1 ≤ g := fun g hg => by have := hF g hg; simp at this; omega
  go_wp2
  go_loopw [3, 17] (fun v' i wr => ∃ (k : Nat) (F' : List Nat), k ≤ t.length ∧ i = .int .i64 k ∧ (Knd.int .u8).Own 5 wr v' (numB t.length ++ ((t.take k).map strBy).flatten) F' ∧ Hid (∀ g ∈ F', w.heap.size + 1 ≤ g) ∧ wr.heap[w.heap.size]? = some (.cells #[.slice A t.length c, .slice B l.length d] 32 (0, 0)) ∧ Below w.heap.size w wr) (fun _ i _ => t.length - (intOf i).toNat)
  case atStart => exact ⟨0, F1, by omega, rfl, by simpa [numB] using ho, hF1, hM, hb1⟩
  case round =>
    clear ho hB hF hbox hM m0 m1 hb1 hF1
    obtain ⟨k, F', hk, rfl, ho, hF, hM, hb⟩ := hrel
    have m0 : wr.cell? ⟨w.heap.size, 0, none⟩ = some (.slice A t.length c) := blk_cell hM 0
    have m1 : wr.cell? ⟨w.heap.size, 1, none⟩ = some (.slice B l.length d) := blk_cell hM 1
    have ml := blk_lt hM
    have hlen := flat_len strBy 66 (t.take k) (fun x hx => strBy_len (hs.st x (List.mem_of_mem_take hx)))
    have hlen2 : (numB t.length ++ ((t.take k).map strBy).flatten).length ≤ 2000 := by
      have h6 := numB_len (n := (t.length : Int)) (by omega) (by omega)
      rw [List.length_take] at hlen
      rw [List.length_append]
      have : min k t.length ≤ 20 := by omega
      have := Nat.mul_le_mul_right 66 this
      omega
    by_cases hlt : k < t.length
    · obtain ⟨x, hx⟩ := get_exU t k hlt
      have hxm := hs.st x (List.mem_of_getElem? hx)
      obtain ⟨ad, cs, rfl, hK, q⟩ := (ht.below hb).get k x hx
      obtain rfl : cs = [.string x] := hK
      have q0 : wr.cell? (ad.add k) = some (.string x) := by have := q 0 _ rfl; simpa [Knd.str, Knd.scalar] using this
      clear q
      have HS := Lib.hid (flat_step strBy t k x hx)
      have HL := Lib.hid hlen2
      clear hx hlen hlen2
      go_wp2_with fail
      refine (putNum _ _ x.size F' _ ho (by omega) (by omega) (by have := HL.out; omega)).mono ?_
      rintro e w2 ⟨v2, F2, rfl, ho2, hB2, hF2⟩
      have hM2 := (hB2.block _ ml (fun hm => by have := hF.out _ hm; omega)).trans hM
      have hb2 := hB2.below hb (fun g hg => by have := hF.out g hg; omega)
      have hG2 : ∀ g ∈ F2, w.heap.size + 1 ≤ g := fun g hg => by
        rcases hF2 g hg with h | h
        · exact hF.out g h
        · omega
      have ml2 := blk_lt hM2
      have hl2 : (numB t.length ++ ((t.take k).map strBy).flatten ++ varB (zig x.size)).length ≤ 3000 := by
        have h6 := numB_len (n := (x.size : Int)) (by omega) (by omega)
        have := HL.out
        unfold numB at h6
        rw [List.length_append]
        omega
      have HL2 := Lib.hid hl2
      clear ho hB2 hF2 m0 m1 q0 hl2 hM hb hF
      go_wp2_with (at_builtin; refine Knd.wp_text rfl _ _ _ _ rfl 5 Try.underlying40 Try.underlying9 infoByte rfl ho2 (w.heap.size + 1) hG2 (by omega) x rfl (by have := HL2.out; omega) ?_; rintro v3 F3 w3 ho3 hB3 hF3)
      have hM3 := (hB3.block _ ml2 (fun hm => by have := hG2 _ hm; omega)).trans hM2
      have hb3 := hB3.below hb2 (fun g hg => by have := hG2 g hg; omega)
      go_roundw
      case rel =>
        refine ⟨k + 1, F3, by omega, by go_num, ?_, hF3, hM3, hb3⟩
        rw [HS.out]
        simpa [strBy, numB, chars] using ho3
      case measure => simp [intOf]; omega
    · obtain rfl : k = t.length := by omega
      have hb2' : True := trivial
      rw [List.take_length] at ho
      have HL := Lib.hid hlen2
      clear hlen hlen2
      go_wp2_with fail
      refine (putNum _ _ l.length F' _ ho (by omega) (by omega) (by have := HL.out; rw [List.take_length] at this; omega)).mono ?_
      rintro e w2 ⟨v2, F2, rfl, ho2, hB2, hF2⟩
      have hM2 := (hB2.block _ ml (fun hm => by have := hF.out _ hm; omega)).trans hM
      have hb2 := hB2.below hb (fun g hg => by have := hF.out g hg; omega)
      have hG2 : ∀ g ∈ F2, w.heap.size + 1 ≤ g := fun g hg => by
        rcases hF2 g hg with h | h
        · exact hF.out g h
        · omega
      have ml2 := blk_lt hM2
      have HL2 := Lib.hid (show (numB t.length ++ (t.map strBy).flatten ++ varB (zig l.length)).length ≤ 2006 by
        have h6 := numB_len (n := (l.length : Int)) (by omega) (by omega)
        have := HL.out
        rw [List.take_length] at this
        unfold numB at h6
        rw [List.length_append]
        omega)
      clear ho hB2 hF2 m0 m1 hM hb hF hb2'
      have m0 : w2.cell? ⟨w.heap.size, 0, none⟩ = some (.slice A t.length c) := blk_cell hM2 0
      have m1 : w2.cell? ⟨w.heap.size, 1, none⟩ = some (.slice B l.length d) := blk_cell hM2 1
      generalize hP : numB t.length ++ (t.map strBy).flatten ++ varB (zig l.length) = P at ho2 HL2
      go_wp2
      go_loopw [3, 36] (fun v' i wr => ∃ (k : Nat) (F' : List Nat), k ≤ l.length ∧ i = .int .i64 k ∧ (Knd.int .u8).Own 5 wr v' (P ++ ((l.take k).map funcBy).flatten) F' ∧ Hid (∀ g ∈ F', w.heap.size + 1 ≤ g) ∧ wr.heap[w.heap.size]? = some (.cells #[.slice A t.length c, .slice B l.length d] 32 (0, 0)) ∧ Below w.heap.size w wr) (fun _ i _ => l.length - (intOf i).toNat)
      case atStart => exact ⟨0, F2, by omega, rfl, by simpa using ho2, hG2, hM2, hb2⟩
      case round =>
        clear ho2 hG2 hM2 m0 m1 hb2 ml2
        obtain ⟨k, F', hk, rfl, ho, hF, hM, hb⟩ := hrel
        have m0 : wr.cell? ⟨w.heap.size, 0, none⟩ = some (.slice A t.length c) := blk_cell hM 0
        have m1 : wr.cell? ⟨w.heap.size, 1, none⟩ = some (.slice B l.length d) := blk_cell hM 1
        have ml := blk_lt hM
        by_cases hlt : k < l.length
        · obtain ⟨x, hx⟩ := get_exU l k hlt
          obtain ⟨p1, p2, p3, p4, p5⟩ := hs.pa x (List.mem_of_getElem? hx)
          have hco := hs.co x (List.mem_of_getElem? hx)
          obtain ⟨ad, A2, c2, rfl, q0', q1', q2', hq, hr2⟩ := kFunc_at hr k x hx
          have q0 := kept hb q0'
          have q1 := kept hb q1'
          have q2 := kept hb q2'
          clear q0' q1' q2'
          have HL := Lib.hid (show (P ++ ((l.take k).map funcBy).flatten).length ≤ 20000 by
            have h1 := flat_len funcBy 1458 (l.take k) (fun x hx => funcBy_len (hs.pa x (List.mem_of_mem_take hx)) (hs.co x (List.mem_of_mem_take hx)))
            have h2 := HL2.out
            rw [List.length_take] at h1
            have : min k l.length ≤ 12 := by omega
            have := Nat.mul_le_mul_right 1458 this
            rw [List.length_append]
            omega)
          have HX := Lib.hid hx
          clear hx
          generalize hg7 : wr.heap.size = g7 at *
          go_wp2
          have hX0 : (wr.alloc (.cells #[.int .i64 x.params, .int .i64 x.locals, .slice A2 x.code.length c2] 64 (0, 0))).heap[g7]? = some (.cells #[.int .i64 x.params, .int .i64 x.locals, .slice A2 x.code.length c2] 64 (0, 0)) := hg7 ▸ blk_new wr _
          have hM0 : (wr.alloc (.cells #[.int .i64 x.params, .int .i64 x.locals, .slice A2 x.code.length c2] 64 (0, 0))).heap[w.heap.size]? = some (.cells #[.slice A t.length c, .slice (some ad) l.length d] 32 (0, 0)) := blk_alloc hM _
          have ho0 : (Knd.int .u8).Own 5 (wr.alloc (.cells #[.int .i64 x.params, .int .i64 x.locals, .slice A2 x.code.length c2] 64 (0, 0))) _ _ F' := Knd.Own.below ho (bl_alloc (Below.refl _ _) _)
          have hb0 : Below w.heap.size w (wr.alloc (.cells #[.int .i64 x.params, .int .i64 x.locals, .slice A2 x.code.length c2] 64 (0, 0))) := (by repeat (first | exact Below.refl _ _ | assumption | (refine bl_set ?_ (by dsimp only; omega) _) | refine bl_alloc ?_ _ | refine bl_drewN ?_ _ | refine bl_drew ?_ | refine bl_step ?_ (by assumption)))
          have hsz0 : (wr.alloc (.cells #[.int .i64 x.params, .int .i64 x.locals, .slice A2 x.code.length c2] 64 (0, 0))).heap.size = g7 + 1 := by simp [hg7]
          have hG0 : ∀ g ∈ F', w.heap.size + 1 ≤ g ∧ g ≠ g7 := fun g hg => ⟨hF.out g hg, fun e => by have := ho.lt g hg; omega⟩
          have hlW := hG0
          generalize wr.alloc (.cells #[.int .i64 x.params, .int .i64 x.locals, .slice A2 x.code.length c2] 64 (0, 0)) = W at *
          go_region_held3 (fun w' => w'.cell? ⟨g7, 0, none⟩ = some (.int .i64 x.params) ∧ w'.cell? ⟨g7, 1, none⟩ = some (.int .i64 x.locals) ∧ w'.cell? ⟨g7, 2, none⟩ = some (.slice A2 x.code.length c2)) ((refine ⟨?_, ?_, ?_⟩ <;> first | exact blk_cell hX0 0 | exact blk_cell hX0 1 | exact blk_cell hX0 2)) (first | (go_at_call 86; refine (putNum _ _ _ _ _ (Knd.Own.below ho0 (by repeat (first | exact Below.refl _ _ | assumption | (refine bl_set ?_ (by dsimp only; omega) _) | refine bl_alloc ?_ _ | refine bl_drewN ?_ _ | refine bl_drew ?_ | refine bl_step ?_ (by assumption)))) (by omega) (by omega) (by have := HL.out; omega)).mono ?_; rintro e w' ⟨v0, F0, rfl, ho0, hB2, hF2⟩; have l7 := blk_lt hX0; have l8 := blk_lt hM0; have hG1 := grew_far hF2 hG0 l7 (by exact l8); have hX0 := (hB2.block g7 (by exact l7) (fun hm => (hG0 _ hm).2 rfl)).trans hX0; have hb0 := hB2.below (show Below w.heap.size w _ from (by repeat (first | exact Below.refl _ _ | assumption | (refine bl_set ?_ (by dsimp only; omega) _) | refine bl_alloc ?_ _ | refine bl_drewN ?_ _ | refine bl_drew ?_ | refine bl_step ?_ (by assumption)))) (fun g hg => by have := (hG0 g hg).1; omega); have hM0 := (hB2.block w.heap.size (by exact l8) (fun hm => by have := (hG0 _ hm).1; omega)).trans hM0; have hG0 := hG1; have HL := grow_own ho0 HL (by omega) (by omega)))
          have x2 : w'.cell? ⟨g7, 2, none⟩ = some (.slice A2 x.code.length c2) := blk_cell hX0 2
          have l7 := blk_lt hX0
          clear m0 q0 q1 q2
          generalize hQ : P ++ (List.map funcBy (List.take k l)).flatten ++ varB (zig x.params) ++ varB (zig x.locals) ++ varB (zig x.code.length) = Q at ho0 HL
          go_wp2
          clear hM
          go_loopw [3, 54] (fun v' i wr => ∃ (n : Nat) (F' : List Nat), n ≤ x.code.length ∧ i = .int .i64 n ∧ (Knd.int .u8).Own 5 wr v' (Q ++ ((x.code.take n).map insBy).flatten) F' ∧ Hid (∀ g ∈ F', w.heap.size + 1 ≤ g) ∧ wr.heap[w.heap.size]? = some (.cells #[.slice A t.length c, .slice (some ad) l.length d] 32 (0, 0)) ∧ Below w.heap.size w wr) (fun _ i _ => x.code.length - (intOf i).toNat)
          case atStart => exact ⟨0, _, by omega, rfl, by simpa using ho0, (fun g hg => (hG0 g hg).1), hM0, hb0⟩
          case round =>
            clear ho0 hM0 hb0 hX0 hG0 x2 l7 hB2 hF2
            obtain ⟨n, Fn, hn, rfl, ho, hF, hM, hb⟩ := hrel
            have ml := blk_lt hM
            by_cases hlt2 : n < x.code.length
            · obtain ⟨y, hy⟩ := get_exU x.code n hlt2
              obtain ⟨z1, z2, z3, z4⟩ := hco y (List.mem_of_getElem? hy)
              obtain ⟨ad2, rfl, r0, r1⟩ := kIns_at (hr2.below hb) n y hy
              have HS := Lib.hid (flat_step insBy x.code n y hy)
              have HL3 := Lib.hid (show (Q ++ ((x.code.take n).map insBy).flatten).length ≤ 30000 by
                have h1 := flat_len insBy 12 (x.code.take n) (fun y hy => insBy_len (hco y (List.mem_of_mem_take hy)))
                have h2 := HL.out
                rw [List.length_take] at h1
                have : min n x.code.length ≤ 120 := by omega
                have := Nat.mul_le_mul_right 12 this
                rw [List.length_append]
                omega)
              clear hy
              generalize hg9 : wr.heap.size = g9 at *
              go_wp2
              have hX0 : (wr.alloc (.cells #[.int .i64 y.op, .int .i64 y.a] 34 (0, 0))).heap[g9]? = some (.cells #[.int .i64 y.op, .int .i64 y.a] 34 (0, 0)) := hg9 ▸ blk_new wr _
              have hM0 := blk_alloc hM (.cells #[.int .i64 y.op, .int .i64 y.a] 34 (0, 0))
              have ho0 : (Knd.int .u8).Own 5 (wr.alloc (.cells #[.int .i64 y.op, .int .i64 y.a] 34 (0, 0))) _ _ Fn := Knd.Own.below ho (bl_alloc (Below.refl _ _) _)
              have hb0 : Below w.heap.size w (wr.alloc (.cells #[.int .i64 y.op, .int .i64 y.a] 34 (0, 0))) := (by repeat (first | exact Below.refl _ _ | assumption | (refine bl_set ?_ (by dsimp only; omega) _) | refine bl_alloc ?_ _ | refine bl_drewN ?_ _ | refine bl_drew ?_ | refine bl_step ?_ (by assumption)))
              have hsz0 : (wr.alloc (.cells #[.int .i64 y.op, .int .i64 y.a] 34 (0, 0))).heap.size = g9 + 1 := by simp [hg9]
              have hG0 : ∀ g ∈ Fn, w.heap.size + 1 ≤ g ∧ g ≠ g9 := fun g hg => ⟨hF.out g hg, fun e => by have := ho.lt g hg; omega⟩
              have HL := HL3
              generalize wr.alloc (.cells #[.int .i64 y.op, .int .i64 y.a] 34 (0, 0)) = W2 at *
              go_region_held3 (fun w' => w'.cell? ⟨g9, 0, none⟩ = some (.int .i64 y.op) ∧ w'.cell? ⟨g9, 1, none⟩ = some (.int .i64 y.a)) ((refine ⟨?_, ?_⟩ <;> first | exact blk_cell hX0 0 | exact blk_cell hX0 1)) (first | (go_at_call 86; refine (putNum _ _ _ _ _ (Knd.Own.below ho0 (by repeat (first | exact Below.refl _ _ | assumption | (refine bl_set ?_ (by dsimp only; omega) _) | refine bl_alloc ?_ _ | refine bl_drewN ?_ _ | refine bl_drew ?_ | refine bl_step ?_ (by assumption)))) (by omega) (by omega) (by have := HL.out; omega)).mono ?_; rintro e w' ⟨v0, F0, rfl, ho0, hB2, hF2⟩; have l7 := blk_lt hX0; have l8 := blk_lt hM0; have hG1 := grew_far hF2 hG0 l7 (by exact l8); have hX0 := (hB2.block g9 (by exact l7) (fun hm => (hG0 _ hm).2 rfl)).trans hX0; have hb0 := hB2.below (show Below w.heap.size w _ from (by repeat (first | exact Below.refl _ _ | assumption | (refine bl_set ?_ (by dsimp only; omega) _) | refine bl_alloc ?_ _ | refine bl_drewN ?_ _ | refine bl_drew ?_ | refine bl_step ?_ (by assumption)))) (fun g hg => by have := (hG0 g hg).1; omega); have hM0 := (hB2.block w.heap.size (by exact l8) (fun hm => by have := (hG0 _ hm).1; omega)).trans hM0; have hG0 := hG1; have HL := grow_own ho0 HL (by omega) (by omega)))
              go_wp2
              go_roundw
              case rel =>
                refine ⟨n + 1, _, by omega, by go_num, ?_, (fun g hg => (hG0 g hg).1), hM0, hb0⟩
                rw [HS.out]
                simpa [insBy, numB] using ho0
              case measure => simp [intOf]; omega
            · obtain rfl : n = x.code.length := by omega
              rw [List.take_length] at ho
              have HS := Lib.hid (flat_step funcBy l k x HX.out)
              go_wp2
              go_roundw
              case rel =>
                refine ⟨k + 1, Fn, by omega, by go_num, ?_, hF, hM, hb⟩
                rw [HS.out]
                rw [← hQ] at ho
                simpa [funcBy, numB] using ho
              case measure => simp [intOf]; omega
        · obtain rfl : k = l.length := by omega
          rw [List.take_length] at ho
          go_wp2
          go_ret
          have hPP : P ++ (l.map funcBy).flatten = saveBy t l := by
            rw [← hP]
            simp [saveBy, numB]
          rw [hPP] at ho
          refine ⟨_, _, rfl, ho, ?_, fun g hg => by have := hF.out g hg; omega, hb⟩
          rw [Knd.flat_own ho]
          cases Value.ownBlock _ <;> simp
end Go.Proofs.Ytgnibbhcbdmigaa.Dat

/- Sorted and compacted: impl's ascending. -/
import Derived.Sort.EveryDepth
import Derived.Test.YtibfajlmecbhiaaAsc
import Derived.Test.YtibfajlmecbhiaaAscA
import Derived.Test.YtibfajlmecbhiaaLay
import Derived.LoopN
namespace Go.Proofs.Ytibfajlmecbhiaa.Dat
open Go Go.RowKit Go.Shelf Go.Sort Go.Proofs.Ytibfajlmecbhiaa.Mem
set_option linter.unusedVariables false
set_option linter.unusedSimpArgs false
set_option maxHeartbeats 1000000 in
set_option maxRecDepth 100000 in
theorem insNone (p : Option Addr) (cap : Nat) (w : World) : Calls Try.prog 93 #[.slice p 0 cap, .int .i64 0, .int .i64 0] w fun e w' => e = .returned (.tuple #[]) ∧ w' = w := by
  go_enter Try.func93, Try.ntmps93
  go_wp2
  refine wp_loop_rounds 1 ?_
  rw [rounds_succ]
  go_wp2
  go_end0
  exact ⟨rfl, rfl⟩
set_option maxHeartbeats 2000000 in
set_option maxRecDepth 100000 in
theorem pdqNone (p : Option Addr) (cap : Nat) (w : World) : Calls Try.prog 88 #[.slice p 0 cap, .int .i64 0, .int .i64 0, .int .i64 0] w fun e w' => e = .returned (.tuple #[]) ∧ w' = w := by
  go_enter Try.func88, Try.ntmps88
  go_wp2
  refine wp_loop_rounds 1 ?_
  rw [rounds_succ]
  go_wp2_with fail
  refine (insNone p cap _).mono ?_
  rintro e w' ⟨rfl, rfl⟩
  go_wp2
  (try simp only [Exit.inBlock, Exit.then])
  refine bodyPost_ret (results_none rfl _ _ _) rfl ?_
  exact ⟨rfl, rfl⟩
theorem len0 (w : World) : Calls Try.prog 89 #[.int .u64 0] w fun e w' => e = .returned (.int .i64 0) ∧ w' = w :=
  calls_of_every_depth fun D => (AnyS.bits_LenIn (ρ := laysSort_ren) { laysSort with } D 0 w (by omega) (by omega))
set_option maxHeartbeats 2000000 in
set_option maxRecDepth 100000 in
theorem sortNone (p : Option Addr) (cap : Nat) (w : World) : Calls Try.prog 72 #[.slice p 0 cap] w fun e w' => e = .returned (.tuple #[]) ∧ w' = w := by
  go_enter Try.func72, Try.ntmps72
  go_wp2_with fail
  refine (len0 _).mono ?_
  rintro e w' ⟨rfl, rfl⟩
  go_wp2_with fail
  refine (pdqNone p cap _).mono ?_
  rintro e w' ⟨rfl, rfl⟩
  go_wp2
  go_end0
  exact ⟨rfl, rfl⟩
theorem sortI (blk cap : Nat) (zs : List Int) (w : World) (hH : Holds (Value.int .i64) w blk 0 zs.toArray) (hblk : blk < w.heap.size) (hsz : zs.length < 4611686018427387904) :
    Calls Try.prog 72 #[.slice (some ⟨blk, 0, none⟩) zs.length cap] w fun e w' => e = .returned (.tuple #[]) ∧ ∃ n os, w' = grow (putRow (Value.int .i64) (Sort.ahead w n) blk 0 (zs.mergeSort fun x y => decide (x ≤ y)).toArray) os :=
  calls_of_every_depth fun D => AnyS.slices_Sort_int_in laysSort D blk 0 cap zs w hH hblk hsz
def OwnInts (w : World) (base : Nat) (v : Value) (zs : List Int) : Prop := w.ownsRow base 3 1 v zs.length (zs.map (Value.int .i64)) ∧ (v = .slice none 0 0 ↔ zs = [])
set_option maxHeartbeats 2000000 in
set_option maxRecDepth 100000 in
theorem sorted (Bs : Nat) (sv : Value) (zs : List Int) (hlen : zs.length ≤ 1048576) (w : World) (hBs : Bs < w.heap.size) (hc : w.cell? ⟨Bs, 0, none⟩ = some sv) (hI : Ints w.heap.size w sv zs) :
    Calls Try.prog 60 #[.func (.func 73) #[] #[.pointer (some ⟨Bs, 0, none⟩)]] w fun e W' => ∃ v, e = .returned v ∧ OwnInts W' w.heap.size v (zs.mergeSort fun x y => decide (x ≤ y)) ∧ Below w.heap.size w W' := by
  have hl : (zs.mergeSort fun x y => decide (x ≤ y)).length = zs.length := List.length_mergeSort zs
  go_enter Try.func60, Try.ntmps60
  go_wp2_with fail
  refine (collect Bs sv zs hlen _ hBs hc hI).mono ?_
  rintro e w1 ⟨v, rfl, hrow, hnil, hb⟩
  rcases hrow.2 with ⟨rfl, hz⟩ | ⟨gb, cap, cur, rfl, hbase, hgb, r1, r2, r3, r4⟩
  · obtain rfl := List.eq_nil_of_length_eq_zero hz
    have hrow' : OwnInts w1 w.heap.size (.slice none 0 0) (([] : List Int).mergeSort fun x y => decide (x ≤ y)) := ⟨⟨by simp, .inl ⟨rfl, by simp⟩⟩, by simp⟩
    clear hrow hnil hl hI
    go_wp2_with fail
    refine (sortNone none 0 _).mono ?_
    rintro e w' ⟨rfl, rfl⟩
    go_wp2
    go_ret
    exact ⟨_, rfl, hrow', hb⟩
  · have hH : Holds (Value.int .i64) w1 gb 0 zs.toArray := holds_of_blockI hgb (by simpa using r4)
    have hgl : gb < w1.heap.size := (Array.getElem?_eq_some_iff.1 hgb).1
    have hsz : zs.length < 4611686018427387904 := by omega
    have cS := sortI gb cap zs w1 hH hgl hsz
    have hne : zs ≠ [] := fun e => by have := hnil.2 e; cases this
    go_wp2_with fail
    refine cS.mono ?_
    rintro e w' ⟨rfl, nn, os, rfl⟩
    have hO := ownsRow_sortedI (base := w.heap.size) (n := nn) (os := os) hl hbase hgb r1 r2 r3
    have hb2 := hb.grown (grownBy_sortedI (n := nn) (os := os) (zs.mergeSort fun x y => decide (x ≤ y)).toArray) hb.size (fun j hj => by cases hj; exact hbase)
    generalize grow (putRow (Value.int .i64) (Sort.ahead w1 nn) gb 0 (zs.mergeSort fun x y => decide (x ≤ y)).toArray) os = w2 at hO hb2
    rw [← hl] at hO
    go_wp2
    go_ret
    refine ⟨_, rfl, ⟨?_, ?_⟩, hb2⟩
    · rw [hl] at hO ⊢; exact hO
    · constructor
      · intro e; cases e
      · intro e; exact absurd (List.eq_nil_of_length_eq_zero (by rw [← hl, e]; rfl)) hne
theorem compNone (a : Option Addr) (cap : Nat) (w : World) : Calls Try.prog 59 #[.slice a 0 cap] w fun e w' => e = .returned (.slice a 0 cap) ∧ w' = w := Any.slices_Compact_int_empty laysCompact a cap w
theorem compI (blk cap : Nat) (zs : List Int) (w : World) (hH : Holds (Value.int .i64) w blk 0 zs.toArray) (hsz : zs.length ≤ 9223372036854775807) (hcap : zs.length ≤ cap) :
    Calls Try.prog 59 #[.slice (some ⟨blk, 0, none⟩) zs.length cap] w fun e w' => e = .returned (.slice (some ⟨blk, 0, none⟩) (Lib.compact zs).length cap) ∧ ∃ q, w' = putRow (Value.int .i64) (Sort.ahead w q) blk 0 (Lib.compact zs ++ List.replicate (zs.length - (Lib.compact zs).length) 0).toArray := Any.slices_Compact_int laysCompact blk 0 cap zs w hH hsz hcap
theorem own_of_row {w0 w : World} {v : Value} {zs : List Int} (h : w.ownsRow w0.heap.size 3 1 v zs.length (zs.map (Value.int .i64))) (hb : Below w0.heap.size w0 w) : NewRow (Knd.int .i64) 3 zs w0 (.returned v) w := by
  have h0 : w.ownsRow 0 3 1 v zs.length (zs.map (Value.int .i64)) := ⟨h.1, by
    rcases h.2 with h1 | ⟨g, c, cur, e1, e2, e3, e4, e5, e6, e7⟩
    · exact .inl h1
    · exact .inr ⟨g, c, cur, e1, Nat.zero_le _, e3, e4, e5, e6, e7⟩⟩
  refine ⟨v, v.ownBlock.toList, rfl, ⟨zs.map (Value.int .i64), List.replicate zs.length [], h0, ⟨?_, ?_, fun j p Fj hp hF => ?_⟩, ?_⟩, ?_, ?_, hb⟩
  · show _ = _ * 1
    simp
  · simp
  · obtain ⟨hj, e2⟩ := List.getElem?_eq_some_iff.1 hp
    have e1 : Fj = [] := by
      obtain ⟨_, h⟩ := List.getElem?_eq_some_iff.1 hF
      simpa using h.symm
    subst e1
    refine ⟨?_, rfl⟩
    show ((zs.map (Value.int .i64)).drop (j * 1)).take 1 = [Value.int .i64 p]
    rw [Nat.mul_one, List.drop_eq_getElem_cons (by simpa using hj)]
    simp [e2]
  · simp
  · cases v.ownBlock <;> simp
  · intro g hg
    rcases h.2 with ⟨rfl, _⟩ | ⟨g', c, cur, rfl, e2, _⟩
    · simp [Value.ownBlock] at hg
    · simp [Value.ownBlock] at hg
      omega
end Go.Proofs.Ytibfajlmecbhiaa.Dat

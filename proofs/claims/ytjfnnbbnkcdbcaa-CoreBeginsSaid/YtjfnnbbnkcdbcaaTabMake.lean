/- table.Make and usherref.Tabled. -/
import Derived.Test.YtjfnnbbnkcdbcaaOpen
namespace Go.Proofs.Ytjfnnbbnkcdbcaa
open Go.RowKit

theorem info_slot : (Try.prog.info? 128).map (fun i => (i.zero, i.size, i.bytes)) = some (some (.agg #[.int .i64 0, .bool false, .int .i64 0, .int .i64 0]), 4, 32) := by kernel_rfl

/-- n slots that are free. -/
def zeros (n : Nat) : List Sl := List.replicate n Sl.zero
theorem zeros_len (n : Nat) : ∀ c ∈ (zeros n).map Sl.cells, c.length = 4 := by
  intro c hc
  simp only [List.mem_map] at hc
  obtain ⟨x, _, rfl⟩ := hc
  rfl
theorem zeros_succ (n : Nat) : ((zeros (n + 1)).map Sl.cells).flatten = ((zeros n).map Sl.cells).flatten ++ Sl.zero.cells := by
  unfold zeros
  rw [List.replicate_succ', List.map_append, List.flatten_append]
  simp
theorem made_zeros (n : Nat) : (madeCells #[.int .i64 0, .bool false, .int .i64 0, .int .i64 0] (n * 4)).toList = ((zeros n).map Sl.cells).flatten := by
  have h := madeCells_toList #[.int .i64 0, .bool false, .int .i64 0, .int .i64 0] n (by decide)
  refine h.trans ?_
  unfold zeros
  rw [List.map_replicate]
  rfl

/-- The end of Make. -/
def TabPost (w : World) (X : List Sl) (e : Ending) (w' : World) : Prop := ∃ v, e = .returned (.tuple #[.agg #[v], .int .i64 0]) ∧ RowAt w' 4 v (X.map Sl.cells) ∧ Below w.heap.size w w'

set_option maxHeartbeats 1000000 in
set_option maxRecDepth 100000 in
theorem prog_Make_ok (n : Nat) (w : World) (h1 : 1 ≤ n) (h2 : n ≤ 40) : Calls Try.prog 43 #[.int .i64 n] w (TabPost w (zeros n)) := by
  obtain ⟨i0, hi, hz0, hz1, hz2⟩ := info_parts info_slot
  have g1 : (1 : Int) ≤ (n : Int) := by omega
  have g2 : (n : Int) ≤ 40 := by omega
  have G1 := Lib.hid h1
  have G2 := Lib.hid h2
  clear h1 h2
  go_enter Try.func43, Try.ntmps43
  go_wp2_with (at_make; go_loud (refine wpList_make_full _ rfl _ _ 43 rfl (w.heap.size + 1) 128 i0 (.agg #[.int .i64 0, .bool false, .int .i64 0, .int .i64 0]) 4 Try.underlying43 hi hz0 hz1 .i64 .i64 n n n rfl rfl rfl rfl ?c1 ?c2 ?c3 ?_))
  case c1 => have := G2.out; rw [hz2]; omega
  case c2 => have := G2.out; unfold maxLen; omega
  case c3 => simp
  intro w1 hown hgrow
  rw [made_zeros] at hown
  have B0 : Below (w.heap.size + 1) (w.alloc (Obj.cells #[Value.slice none 0 0] 45)) w1 := (Below.refl _ _).grown hgrow (by simp) (fun k hk => by cases hk)
  obtain ⟨hc, hf⟩ := bcell B0
  have hz := blt B0
  go_wp2
  refine bodyPost_ret (v := .tuple #[.agg #[.slice (some ⟨w.heap.size + 1, 0, none⟩) n n], .int .i64 0]) ?_ rfl ?_
  · simp [results, Try.results43, go_sem, *]
  · refine ⟨_, rfl, RowAt_of_owns (ownsRow_setCell_below hown (by simp) _) (by simp [zeros]) (zeros_len n), ?_⟩
    exact (((Below.refl _ _).alloc (Nat.le_refl _) _).trans (B0.mono (by omega))).setCell (by simp) _

set_option maxHeartbeats 1000000 in
set_option maxRecDepth 100000 in
theorem prog_Make_bad (n : Int) (w : World) (h : n < 1 ∨ (1 ≤ n ∧ 40 < n)) : Calls Try.prog 43 #[.int .i64 n] w fun e w' => e = .returned (.tuple #[.agg #[.slice none 0 0], .int .i64 2]) ∧ Below w.heap.size w w' := by
  rcases h with h | ⟨h, h2⟩
  all_goals
    go_enter Try.func43, Try.ntmps43
    go_wp2
    (refine bodyPost_ret (v := .tuple #[.agg #[.slice none 0 0], .int .i64 2]) ?_ rfl ?_; (focus (first | (simp [results, Try.results43, go_sem]; done) | (simp [results, Try.results43, go_sem, *]; done))); exact ⟨rfl, (by repeat (first | (with_reducible exact Below.refl _ _) | (with_reducible assumption) | (with_reducible refine Below.drew ?_) | (with_reducible refine Below_drewN ?_) | (with_reducible refine Below.alloc ?_ (by first | omega | (simp; done) | (simp; omega)) _) | (with_reducible refine Below.setCell ?_ (by first | omega | (simp; done) | (simp; omega)) _) | (with_reducible refine Below.trans ?_ (Below.mono (by assumption) (by first | omega | (simp; done) | (simp; omega))))))⟩)

set_option maxHeartbeats 1000000 in
set_option maxRecDepth 100000 in
theorem ref_Tabled_bad (n : Int) (w : World) (h : n < 1 ∨ (1 ≤ n ∧ 40 < n)) : Calls Try.prog 46 #[.int .i64 n] w fun e w' => e = .returned (.tuple #[.agg #[.slice none 0 0], .int .i64 2]) ∧ Below w.heap.size w w' := by
  rcases h with h | ⟨h, h2⟩
  all_goals
    go_enter Try.func46, Try.ntmps46
    go_wp2_with (go_at_call 31; first | (refine (In_yes _ _ _ _ (by omega) (by omega)).mono ?_; rintro e w' ⟨rfl, rfl⟩) | (refine (In_no _ _ _ _ (by omega)).mono ?_; rintro e w' ⟨rfl, rfl⟩))
    (refine bodyPost_ret (v := .tuple #[.agg #[.slice none 0 0], .int .i64 2]) ?_ rfl ?_; (focus (first | (simp [results, Try.results46, go_sem]; done) | (simp [results, Try.results46, go_sem, *]; done))); exact ⟨rfl, (by repeat (first | (with_reducible exact Below.refl _ _) | (with_reducible assumption) | (with_reducible refine Below.drew ?_) | (with_reducible refine Below_drewN ?_) | (with_reducible refine Below.alloc ?_ (by first | omega | (simp; done) | (simp; omega)) _) | (with_reducible refine Below.setCell ?_ (by first | omega | (simp; done) | (simp; omega)) _) | (with_reducible refine Below.trans ?_ (Below.mono (by assumption) (by first | omega | (simp; done) | (simp; omega))))))⟩)

/-- What holds at the head of Tabled's loop. -/
def TabRel (w wr : World) (n k : Nat) : Prop := k ≤ n ∧ Below w.heap.size w wr ∧ wr.heap[w.heap.size]? = some (.cells #[.slice none 0 0] 45 (0, 0)) ∧
  ∃ (a : Option Addr) (cap : Nat), wr.heap[w.heap.size + 1]? = some (.cells #[.slice a k cap] 45 (0, 0)) ∧ wr.ownsRow (w.heap.size + 2) 128 4 (.slice a k cap) k ((zeros k).map Sl.cells).flatten

theorem TabRel_step {w wr w1 : World} {n k : Nat} {a : Option Addr} {cap : Nat} {v' : Value} (hk : k < n) (hb : Below w.heap.size w wr) (h0 : wr.heap[w.heap.size]? = some (.cells #[.slice none 0 0] 45 (0, 0))) (h1 : wr.heap[w.heap.size + 1]? = some (.cells #[.slice a k cap] 45 (0, 0)))
    (hown0 : wr.ownsRow (w.heap.size + 2) 128 4 (.slice a k cap) k ((zeros k).map Sl.cells).flatten)
    (hown : w1.ownsRow (w.heap.size + 2) 128 4 v' (k + 1) (((zeros k).map Sl.cells).flatten ++ Sl.zero.cells)) (hgrow : (wr.alloc (.cells #[.int .i64 0, .bool false, .int .i64 0, .int .i64 0] 128)).grownBy w1 (Value.slice a k cap).ownBlock) :
    ∃ (a' : Option Addr) (cap' : Nat), v' = .slice a' (k + 1) cap' ∧ w1.heap[w.heap.size + 1]? = some (.cells #[.slice a k cap] 45 (0, 0)) ∧ TabRel w (w1.setCell ⟨w.heap.size + 1, 0, none⟩ (.slice a' (k + 1) cap')) n (k + 1) := by
  obtain ⟨a', cap', rfl, _, hbase⟩ := owns_shape hown
  have hlt := lt_of_block h1
  have hB : Below (w.heap.size + 2) wr w1 := (((Below.refl _ _).alloc (by omega) _).trans ((Below.refl _ _).grown hgrow (by simp; omega) (by
    intro r hr
    obtain ⟨_, _, e, _, hb2⟩ := owns_shape hown0
    cases a with
    | none => cases hr
    | some ad =>
      simp only [Value.slice.injEq] at e
      have := (hb2 ad e.1.symm).1
      simp only [Value.ownBlock, Option.some.injEq] at hr
      omega)))
  have h1' : w1.heap[w.heap.size + 1]? = some (.cells #[.slice a k cap] 45 (0, 0)) := (hB.block _ (by omega)).trans h1
  have h0' : w1.heap[w.heap.size]? = some (.cells #[.slice none 0 0] 45 (0, 0)) := (hB.block _ (by omega)).trans h0
  refine ⟨a', cap', rfl, h1', by omega, ?_, ?_, a', cap', one_setCell h1', ?_⟩
  · exact (hb.trans (hB.mono (by omega))).setCell (by simp) _
  · rw [← h0']; exact Below.heap_setCell _ _ _ _ (by simp)
  · rw [zeros_succ]; exact ownsRow_setCell_below hown (by simp) _

set_option maxHeartbeats 1000000 in
set_option maxRecDepth 100000 in
theorem ref_Tabled_ok (n : Nat) (w : World) (h1 : 1 ≤ n) (h2 : n ≤ 40) : Calls Try.prog 46 #[.int .i64 n] w (TabPost w (zeros n)) := by
  obtain ⟨i0, hi, hz0, hz1, hz2⟩ := info_parts info_slot
  have g1 : (1 : Int) ≤ (n : Int) := by omega
  have g2 : (n : Int) ≤ 40 := by omega
  have G2 := Lib.hid h2
  clear h1 h2
  go_enter Try.func46, Try.ntmps46
  go_wp2_with (go_at_call 31; first | (refine (In_yes _ _ _ _ (by omega) (by omega)).mono ?_; rintro e w' ⟨rfl, rfl⟩) | (refine (In_no _ _ _ _ (by omega)).mono ?_; rintro e w' ⟨rfl, rfl⟩))
  go_loopw [5] (fun i wr => ∃ k : Nat, i = .int .i64 k ∧ TabRel w wr n k) (fun i _ => n - (intOf i).toNat)
  case atStart =>
    refine ⟨0, rfl, Nat.zero_le _, ?_, ?_, none, 0, ?_, ?_⟩
    · exact ((Below.refl _ _).alloc (Nat.le_refl _) _).alloc (by simp) _
    · rw [Below.heap_alloc _ _ _ (by simp)]; exact heap_at _ rfl
    · exact heap_at (w := w.alloc _) _ (by simp)
    · exact World.ownsRow_nil _ _ _ _
  case round =>
    obtain ⟨k, rfl, hk, hb, h0, a, cap, h1, hown⟩ := hrel
    have c1 := cell_of_one h1
    have f1 := free_of_one h1
    have c0 := cell_of_one h0
    have f0 := free_of_one h0
    have s1 := lt_of_block h1
    have gk := G2.out
    rcases (show k < n ∨ n = k by omega) with hlt | rfl
    · have hlt' : (k : Int) < (n : Int) := by omega
      go_wp2_with (at_builtin; refine wpList_append_own _ rfl _ _ 43 rfl (w.heap.size + 2) 128 i0 (.agg #[.int .i64 0, .bool false, .int .i64 0, .int .i64 0]) 4 32 Try.underlying43 hi hz0 hz1 hz2 rfl (by decide) _ k _ rfl (hown.alloc _) ⟨wr.heap.size, 0, none⟩ 1 1 Sl.zero.cells rfl rfl (news_one Sl.zero.cells 128) ?c1 ?c2 ?c3 ?c4 ?_)
      case c1 => intro u hu; simp [Sl.cells] at hu; rcases hu with rfl | rfl | rfl | rfl <;> rfl
      case c2 => unfold maxLen; omega
      case c3 => omega
      case c4 => simp; omega
      intro v' w1 hown' hgrow _
      obtain ⟨a', cap', rfl, h1', R⟩ := TabRel_step hlt hb h0 h1 hown hown' hgrow
      have c1' := cell_of_one h1'
      have f1' := free_of_one h1'
      clear hown' hgrow hown c1 f1 h1 h0 c0 f0 s1 hb
      go_wp2
      go_roundw
      case rel => exact ⟨k + 1, by go_num, R⟩
      case measure => simp [intOf]; omega
    · go_wp2
      refine bodyPost_ret (v := .tuple #[.agg #[.slice a n cap], .int .i64 0]) ?_ rfl ?_
      · simp [results, Try.results46, go_sem, *]
      · refine ⟨_, rfl, RowAt_of_owns (ownsRow_setCell_below hown (by simp) _) (by simp [zeros]) (zeros_len n), ?_⟩
        exact hb.setCell (by simp) _
end Go.Proofs.Ytjfnnbbnkcdbcaa

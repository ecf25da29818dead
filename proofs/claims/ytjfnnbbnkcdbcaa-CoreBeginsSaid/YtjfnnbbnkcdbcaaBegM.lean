/- table.Make, usherref.Tabled, wheel.New: their rows are new. -/
import Derived.Test.YtjfnnbbnkcdbcaaTabMake
import Derived.Test.YtjfnnbbnkcdbcaaWheelNew
namespace Go.Proofs.Ytjfnnbbnkcdbcaa
open Go.RowKit

def TabNew (w : World) (X : List Sl) (e : Ending) (w' : World) : Prop := ∃ v, e = .returned (.tuple #[.agg #[v], .int .i64 0]) ∧ RowNew w.heap.size w' 4 v (X.map Sl.cells) ∧ Below w.heap.size w w'
def WheNew (w : World) (now : Int) (e : Ending) (w' : World) : Prop := ∃ v, e = .returned (.tuple #[.agg #[.int .i64 now, v], .int .i64 0]) ∧ RowNew w.heap.size w' 1 v (nils 25) ∧ Below w.heap.size w w'

set_option maxHeartbeats 1000000 in
set_option maxRecDepth 100000 in
theorem prog_Make_new (n : Nat) (w : World) (h1 : 1 ≤ n) (h2 : n ≤ 40) : Calls Try.prog 43 #[.int .i64 n] w (TabNew w (zeros n)) := by
  obtain ⟨i0, hi, hz0, hz1, hz2⟩ := info_parts info_slot
  have g1 : (1 : Int) ≤ (n : Int) := by omega
  have g2 : (n : Int) ≤ 40 := by omega
  have G1 := Lib.hid h1
  have G2 := Lib.hid h2
  clear h1 h2
  go_enter Try.func43, Try.ntmps43
  go_wp2_with (at_make; go_loud (refine wpList_make_full _ rfl _ _ 43 rfl (w.heap.size + 1) 128 i0 (.agg #[.int .i64 0, .bool false, .int .i64 0, .int .i64 0]) 4 Try.underlying43 hi hz0 hz1 .i64 .i64 n n n rfl rfl rfl rfl ?c1 ?c2 ?c3 ?_))
  case c1 => have := G2.out; rw [hz2]; omega
  case c2 => have := G2.out; unfold maxLen; omega
  case c3 => simp
  intro w1 hown hgrow
  rw [made_zeros] at hown
  have B0 : Below (w.heap.size + 1) (w.alloc (Obj.cells #[Value.slice none 0 0] 45)) w1 := (Below.refl _ _).grown hgrow (by simp) (fun k hk => by cases hk)
  obtain ⟨hc, hf⟩ := bcell B0
  have hz := blt B0
  go_wp2
  refine bodyPost_ret (v := .tuple #[.agg #[.slice (some ⟨w.heap.size + 1, 0, none⟩) n n], .int .i64 0]) ?_ rfl ?_
  · simp [results, Try.results43, go_sem, *]
  · refine ⟨_, rfl, RowNew_mono (RowNew_of_owns (ownsRow_setCell_below hown (by simp) _) (by simp [zeros]) (zeros_len n)) (by omega), ?_⟩
    exact (((Below.refl _ _).alloc (Nat.le_refl _) _).trans (B0.mono (by omega))).setCell (by simp) _

set_option maxHeartbeats 1000000 in
set_option maxRecDepth 100000 in
theorem ref_Tabled_new (n : Nat) (w : World) (h1 : 1 ≤ n) (h2 : n ≤ 40) : Calls Try.prog 46 #[.int .i64 n] w (TabNew w (zeros n)) := by
  obtain ⟨i0, hi, hz0, hz1, hz2⟩ := info_parts info_slot
  have g1 : (1 : Int) ≤ (n : Int) := by omega
  have g2 : (n : Int) ≤ 40 := by omega
  have G2 := Lib.hid h2
  clear h1 h2
  go_enter Try.func46, Try.ntmps46
  go_wp2_with (go_at_call 31; first | (refine (In_yes _ _ _ _ (by omega) (by omega)).mono ?_; rintro e w' ⟨rfl, rfl⟩) | (refine (In_no _ _ _ _ (by omega)).mono ?_; rintro e w' ⟨rfl, rfl⟩))
  go_loopw [5] (fun i wr => ∃ k : Nat, i = .int .i64 k ∧ TabRel w wr n k) (fun i _ => n - (intOf i).toNat)
  case atStart =>
    refine ⟨0, rfl, Nat.zero_le _, ?_, ?_, none, 0, ?_, ?_⟩
    · exact ((Below.refl _ _).alloc (Nat.le_refl _) _).alloc (by simp) _
    · rw [Below.heap_alloc _ _ _ (by simp)]; exact heap_at _ rfl
    · exact heap_at (w := w.alloc _) _ (by simp)
    · exact World.ownsRow_nil _ _ _ _
  case round =>
    obtain ⟨k, rfl, hk, hb, h0, a, cap, h1, hown⟩ := hrel
    have c1 := cell_of_one h1
    have f1 := free_of_one h1
    have c0 := cell_of_one h0
    have f0 := free_of_one h0
    have s1 := lt_of_block h1
    have gk := G2.out
    rcases (show k < n ∨ n = k by omega) with hlt | rfl
    · have hlt' : (k : Int) < (n : Int) := by omega
      go_wp2_with (at_builtin; refine wpList_append_own _ rfl _ _ 43 rfl (w.heap.size + 2) 128 i0 (.agg #[.int .i64 0, .bool false, .int .i64 0, .int .i64 0]) 4 32 Try.underlying43 hi hz0 hz1 hz2 rfl (by decide) _ k _ rfl (hown.alloc _) ⟨wr.heap.size, 0, none⟩ 1 1 Sl.zero.cells rfl rfl (news_one Sl.zero.cells 128) ?c1 ?c2 ?c3 ?c4 ?_)
      case c1 => intro u hu; simp [Sl.cells] at hu; rcases hu with rfl | rfl | rfl | rfl <;> rfl
      case c2 => unfold maxLen; omega
      case c3 => omega
      case c4 => simp; omega
      intro v' w1 hown' hgrow _
      obtain ⟨a', cap', rfl, h1', R⟩ := TabRel_step hlt hb h0 h1 hown hown' hgrow
      have c1' := cell_of_one h1'
      have f1' := free_of_one h1'
      clear hown' hgrow hown c1 f1 h1 h0 c0 f0 s1 hb
      go_wp2
      go_roundw
      case rel => exact ⟨k + 1, by go_num, R⟩
      case measure => simp [intOf]; omega
    · go_wp2
      refine bodyPost_ret (v := .tuple #[.agg #[.slice a n cap], .int .i64 0]) ?_ rfl ?_
      · simp [results, Try.results46, go_sem, *]
      · refine ⟨_, rfl, RowNew_mono (RowNew_of_owns (ownsRow_setCell_below hown (by simp) _) (by simp [zeros]) (zeros_len n)) (by omega), ?_⟩
        exact hb.setCell (by simp) _

set_option maxHeartbeats 1000000 in
set_option maxRecDepth 100000 in
theorem prog_New_new (n : Int) (w : World) (h1 : 0 ≤ n) (h2 : n ≤ 1099511627776) : Calls Try.prog 45 #[.int .i64 n] w (WheNew w n) := by
  obtain ⟨i0, hi, hz0, hz1, hz2⟩ := info_parts info_timers
  go_enter Try.func45, Try.ntmps45
  go_wp2_with (at_make; go_loud (refine wpList_make_full _ rfl _ _ 57 rfl (w.heap.size + 1) 129 i0 (.slice none 0 0) 1 Try.underlying57 hi hz0 hz1 .i64 .i64 25 25 25 rfl rfl rfl rfl ?c1 ?c2 ?c3 ?_))
  case c1 => rw [hz2]; omega
  case c2 => unfold maxLen; omega
  case c3 => simp
  intro w1 hown hgrow
  rw [show (madeCells #[.slice none 0 0] 25).toList = (nils 25).flatten from made_nils 25] at hown
  have B0 := (Below.refl (w.heap.size + 1) _).grown hgrow (by simp) (fun k hk => by cases hk)
  obtain ⟨hc, hf⟩ := bcell B0
  have hz := blt B0
  go_wp2
  refine bodyPost_ret (v := .tuple #[.agg #[.int .i64 n, .slice (some ⟨w.heap.size + 1, 0, none⟩) 25 25], .int .i64 0]) ?_ rfl ?_
  · simp [results, Try.results45, go_sem, *]
  · refine ⟨_, rfl, RowNew_mono (RowNew_of_owns (ownsRow_setCell_below (ownsRow_setCell_below hown (by simp) _) (by simp) _) (by simp [nils]) (nils_len 25)) (by omega), ?_⟩
    exact ((((Below.refl _ _).alloc (Nat.le_refl _) _).trans (B0.mono (by omega))).setCell (by simp) _).setCell (by simp) _
end Go.Proofs.Ytjfnnbbnkcdbcaa

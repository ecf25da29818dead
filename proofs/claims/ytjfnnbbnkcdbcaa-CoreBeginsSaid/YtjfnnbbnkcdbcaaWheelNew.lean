/- wheel.New, usherref.WheelNew: the walk of WheelNews. -/
import Derived.Test.YtjfnnbbnkcdbcaaOpen
import Derived.Deep.QuietTactic
import Derived.BigQuiet
namespace Go.Proofs.Ytjfnnbbnkcdbcaa
open Go.RowKit

theorem info_timers : (Try.prog.info? 129).map (fun i => (i.zero, i.size, i.bytes)) = some (some (.slice none 0 0), 1, 24) := by kernel_rfl

/-- n empty lists. -/
def nils (n : Nat) : List (List Value) := List.replicate n [.slice none 0 0]
theorem nils_len (n : Nat) : ∀ c ∈ nils n, c.length = 1 := by
  intro c hc
  rw [List.eq_of_mem_replicate hc]; rfl
theorem nils_succ (n : Nat) : (nils (n + 1)).flatten = (nils n).flatten ++ [.slice none 0 0] := by
  unfold nils
  rw [List.replicate_succ', List.flatten_append]
  simp
theorem nils_get (n i : Nat) (h : i < n) : ((nils n).getD i [])[0]? = some (.slice none 0 0) := by
  unfold nils; simp [List.getD, h]
theorem made_nils (n : Nat) : (madeCells #[.slice none 0 0] (n * 1)).toList = (nils n).flatten := madeCells_toList #[.slice none 0 0] n (by decide)

/-- The end of New. -/
def WhePost (w : World) (now : Int) (e : Ending) (w' : World) : Prop := ∃ v, e = .returned (.tuple #[.agg #[.int .i64 now, v], .int .i64 0]) ∧ RowAt w' 1 v (nils 25) ∧ Below w.heap.size w w'

set_option maxHeartbeats 1000000 in
set_option maxRecDepth 100000 in
theorem prog_New_ok (n : Int) (w : World) (h1 : 0 ≤ n) (h2 : n ≤ 1099511627776) : Calls Try.prog 45 #[.int .i64 n] w (WhePost w n) := by
  obtain ⟨i0, hi, hz0, hz1, hz2⟩ := info_parts info_timers
  go_enter Try.func45, Try.ntmps45
  go_wp2_with (at_make; go_loud (refine wpList_make_full _ rfl _ _ 57 rfl (w.heap.size + 1) 129 i0 (.slice none 0 0) 1 Try.underlying57 hi hz0 hz1 .i64 .i64 25 25 25 rfl rfl rfl rfl ?c1 ?c2 ?c3 ?_))
  case c1 => rw [hz2]; omega
  case c2 => unfold maxLen; omega
  case c3 => simp
  intro w1 hown hgrow
  rw [show (madeCells #[.slice none 0 0] 25).toList = (nils 25).flatten from made_nils 25] at hown
  have B0 := (Below.refl (w.heap.size + 1) _).grown hgrow (by simp) (fun k hk => by cases hk)
  obtain ⟨hc, hf⟩ := bcell B0
  have hz := blt B0
  go_wp2
  refine bodyPost_ret (v := .tuple #[.agg #[.int .i64 n, .slice (some ⟨w.heap.size + 1, 0, none⟩) 25 25], .int .i64 0]) ?_ rfl ?_
  · simp [results, Try.results45, go_sem, *]
  · refine ⟨_, rfl, RowAt_of_owns (ownsRow_setCell_below (ownsRow_setCell_below hown (by simp) _) (by simp) _) (by simp [nils]) (nils_len 25), ?_⟩
    exact ((((Below.refl _ _).alloc (Nat.le_refl _) _).trans (B0.mono (by omega))).setCell (by simp) _).setCell (by simp) _

set_option maxHeartbeats 1000000 in
set_option maxRecDepth 100000 in
theorem prog_New_bad (n : Int) (w : World) (h : n < 0 ∨ (0 ≤ n ∧ 1099511627776 < n)) : Calls Try.prog 45 #[.int .i64 n] w fun e w' => e = .returned (.tuple #[.agg #[.int .i64 0, .slice none 0 0], .int .i64 2]) ∧ Below w.heap.size w w' := by
  rcases h with h | ⟨h, h2⟩
  all_goals
    go_enter Try.func45, Try.ntmps45
    go_wp2
    (refine bodyPost_ret (v := .tuple #[.agg #[.int .i64 0, .slice none 0 0], .int .i64 2]) ?_ rfl ?_; (focus (first | (simp [results, Try.results45, go_sem]; done) | (simp [results, Try.results45, go_sem, *]; done))); exact ⟨rfl, (by repeat (first | (with_reducible exact Below.refl _ _) | (with_reducible assumption) | (with_reducible refine Below.drew ?_) | (with_reducible refine Below_drewN ?_) | (with_reducible refine Below.alloc ?_ (by first | omega | (simp; done) | (simp; omega)) _) | (with_reducible refine Below.setCell ?_ (by first | omega | (simp; done) | (simp; omega)) _) | (with_reducible refine Below.trans ?_ (Below.mono (by assumption) (by first | omega | (simp; done) | (simp; omega))))))⟩)

/-- What holds at the head of WheelOf's loop, at no timers. -/
def WofRel (w wr : World) (now : Int) (k : Nat) : Prop := k ≤ 25 ∧ Below w.heap.size w wr ∧ wr.heap[w.heap.size]? = some (.cells #[.int .i64 0, .slice none 0 0] 59 (0, 0)) ∧
  ∃ (a : Option Addr) (cap : Nat), wr.heap[w.heap.size + 1]? = some (.cells #[.int .i64 now, .slice a k cap] 59 (0, 0)) ∧ wr.ownsRow (w.heap.size + 2) 129 1 (.slice a k cap) k (nils k).flatten

theorem WofRel_step {w wr w1 : World} {now : Int} {k : Nat} {a : Option Addr} {cap : Nat} {v' : Value} (hk : k < 25) (hb : Below w.heap.size w wr) (h0 : wr.heap[w.heap.size]? = some (.cells #[.int .i64 0, .slice none 0 0] 59 (0, 0))) (h1 : wr.heap[w.heap.size + 1]? = some (.cells #[.int .i64 now, .slice a k cap] 59 (0, 0)))
    (hown0 : wr.ownsRow (w.heap.size + 2) 129 1 (.slice a k cap) k (nils k).flatten)
    (hown : w1.ownsRow (w.heap.size + 2) 129 1 v' (k + 1) ((nils k).flatten ++ [.slice none 0 0])) (hgrow : (wr.alloc (.cells #[.slice none 0 0] 129)).grownBy w1 (Value.slice a k cap).ownBlock) :
    ∃ (a' : Option Addr) (cap' : Nat), v' = .slice a' (k + 1) cap' ∧ w1.heap[w.heap.size + 1]? = some (.cells #[.int .i64 now, .slice a k cap] 59 (0, 0)) ∧ WofRel w (w1.setCell ⟨w.heap.size + 1, 1, none⟩ (.slice a' (k + 1) cap')) now (k + 1) := by
  obtain ⟨a', cap', rfl, _, hbase⟩ := owns_shape hown
  have hlt := lt_of_block h1
  have hB : Below (w.heap.size + 2) wr w1 := (((Below.refl _ _).alloc (by omega) _).trans ((Below.refl _ _).grown hgrow (by simp; omega) (by
    intro r hr
    obtain ⟨_, _, e, _, hb2⟩ := owns_shape hown0
    cases a with
    | none => cases hr
    | some ad =>
      simp only [Value.slice.injEq] at e
      have := (hb2 ad e.1.symm).1
      simp only [Value.ownBlock, Option.some.injEq] at hr
      omega)))
  have h1' : w1.heap[w.heap.size + 1]? = some (.cells #[.int .i64 now, .slice a k cap] 59 (0, 0)) := (hB.block _ (by omega)).trans h1
  have h0' : w1.heap[w.heap.size]? = some (.cells #[.int .i64 0, .slice none 0 0] 59 (0, 0)) := (hB.block _ (by omega)).trans h0
  refine ⟨a', cap', rfl, h1', by omega, ?_, ?_, a', cap', two_setCell1 h1', ?_⟩
  · exact (hb.trans (hB.mono (by omega))).setCell (by simp) _
  · rw [← h0']; exact Below.heap_setCell _ _ _ _ (by simp)
  · rw [nils_succ]; exact ownsRow_setCell_below hown (by simp) _

/-- The end of WheelOf at no timers. -/
def WofPost (w : World) (now : Int) (e : Ending) (w' : World) : Prop := ∃ v, e = .returned (.agg #[.int .i64 now, v]) ∧ RowNew w.heap.size w' 1 v (nils 25) ∧ Below w.heap.size w w'

set_option maxHeartbeats 2000000 in
set_option maxRecDepth 100000 in
theorem ref_WheelOf_nil (now : Int) (w : World) : Calls Try.prog 48 #[.int .i64 now, .slice none 0 0] w (WofPost w now) := by
  obtain ⟨i0, hi, hz0, hz1, hz2⟩ := info_parts info_timers
  go_enter Try.func48, Try.ntmps48
  go_wp2
  go_loopw [6] (fun i wr => ∃ k : Nat, i = .int .i64 k ∧ WofRel w wr now k) (fun i _ => 25 - (intOf i).toNat)
  case atStart =>
    refine ⟨0, rfl, Nat.zero_le _, ?_, ?_, none, 0, ?_, ?_⟩
    · exact ((Below.refl _ _).alloc (Nat.le_refl _) _).alloc (by simp) _
    · rw [Below.heap_alloc _ _ _ (by simp)]; exact heap_at _ rfl
    · exact heap_at (w := w.alloc _) _ (by simp)
    · exact World.ownsRow_nil _ _ _ _
  case round =>
    obtain ⟨k, rfl, hk, hb, h0, a, cap, h1, hown⟩ := hrel
    obtain ⟨c10, c11, f10, f11⟩ := two_cells h1
    obtain ⟨c00, c01, f00, f01⟩ := two_cells h0
    have s1 := lt_of_block h1
    rcases (show k < 25 ∨ k = 25 by omega) with hlt | rfl
    · have hlt' : (k : Int) < 25 := by omega
      go_wp2
      refine wp_loop_rounds 1 ?_
      rw [rounds_succ]
      go_wp2_with (at_builtin; refine wpList_append_own _ rfl _ _ 57 rfl (w.heap.size + 2) 129 i0 (.slice none 0 0) 1 24 Try.underlying57 hi hz0 hz1 hz2 rfl (by decide) _ k _ rfl (hown.alloc _) ⟨wr.heap.size, 0, none⟩ 1 1 [.slice none 0 0] rfl rfl (news_one [.slice none 0 0] 129) ?c1 ?c2 ?c3 ?c4 ?_)
      case c1 => intro u hu; simp at hu; subst hu; rfl
      case c2 => unfold maxLen; omega
      case c3 => omega
      case c4 => simp; omega
      intro v' w1 hown' hgrow _
      obtain ⟨a', cap', rfl, h1', R⟩ := WofRel_step hlt hb h0 h1 hown hown' hgrow
      obtain ⟨c10', c11', f10', f11'⟩ := two_cells h1'
      clear hown' hgrow hown c10 f10 c11 f11 h1 h0 c00 c01 f00 f01 s1 hb
      go_wp2
      go_roundw
      case rel => exact ⟨k + 1, by go_num, R⟩
      case measure => simp [intOf]; omega
    · go_wp2
      refine bodyPost_ret (v := .agg #[.int .i64 now, .slice a 25 cap]) ?_ rfl ?_
      · simp [results, Try.results48, go_sem, *]
      · refine ⟨_, rfl, RowNew_mono (RowNew_of_owns (ownsRow_setCell_below (ownsRow_setCell_below hown (by simp) _) (by simp) _) (by simp [nils]) (nils_len 25)) (by omega), ?_⟩
        exact (hb.setCell (by simp) _).setCell (by simp) _
end Go.Proofs.Ytjfnnbbnkcdbcaa

/- usherlaw.sameBools, sameHealth, healths: their contracts. -/
import Derived.Test.YtjnfnmbkmgjdlaaBack
import Derived.Test.YtjnfnmbkmgjdlaaCopybools
import Derived.Test.YtjnfnmbkmgjdlaaSameBools
namespace Go.Proofs.Ytjnfnmbkmgjdlaa
open Go.RowKit

set_option maxHeartbeats 4000000 in
set_option maxRecDepth 100000 in
theorem sameHealth_yes (v1 v2 : Value) (M : List Bool) (out : Bool) (u t : Int) (w : World) (r1 : RowAt w 1 v1 (bcells M)) (r2 : RowAt w 1 v2 (bcells M)) :
    Calls Try.prog 18 #[.agg #[v1, .bool out, .int .i64 u, .int .i64 t], .agg #[v2, .bool out, .int .i64 u, .int .i64 t]] w fun e w' => e = .returned (.bool true) ∧ Below w.heap.size w w' := by
  have R1 := Lib.hid r1
  have R2 := Lib.hid r2
  obtain ⟨a1, c1, rfl, _⟩ := bshape r1
  obtain ⟨a2, c2, rfl, _⟩ := bshape r2
  clear r1 r2
  go_enter Try.func18, Try.ntmps18
  go_wp2_with fail
  refine (sameBools_yes _ _ M _ (RowAt_alloc (RowAt_alloc R1.out _) _) (RowAt_alloc (RowAt_alloc R2.out _) _)).mono ?_
  rintro e w1 ⟨rfl, hb1⟩
  go_wp2
  all_goals first | (go_ret; exact ⟨rfl, (by repeat (first | (with_reducible exact Below.refl _ _) | (with_reducible assumption) | (with_reducible refine Below.drew ?_) | (with_reducible refine Below_drewN ?_) | (with_reducible refine Below.alloc ?_ (by first | omega | (simp; done) | (simp; omega)) _) | (with_reducible refine Below.setCell ?_ (by first | omega | (simp; done) | (simp; omega)) _) | (with_reducible refine Below.trans ?_ (Below.mono (by assumption) (by first | omega | (simp; done) | (simp; omega))))))⟩) | (exfalso; first | omega | (simp at *; omega) | (simp at *; done))

def HCopyPost (w : World) (M : List Bool) (out : Bool) (u t : Int) (e : Ending) (w' : World) : Prop := ∃ v, e = .returned (.agg #[v, .bool out, .int .i64 u, .int .i64 t]) ∧ RowAt w' 1 v (bcells M) ∧ Below w.heap.size w w'
set_option maxHeartbeats 4000000 in
set_option maxRecDepth 100000 in
theorem healths_copy (v : Value) (M : List Bool) (out : Bool) (u t : Int) (w : World) (r : RowAt w 1 v (bcells M)) (hn : M.length ≤ 140737488351232) :
    Calls Try.prog 15 #[.agg #[v, .bool out, .int .i64 u, .int .i64 t]] w (HCopyPost w M out u t) := by
  have R := Lib.hid r
  obtain ⟨a, c, rfl, _⟩ := bshape r
  clear r
  go_enter Try.func15, Try.ntmps15
  go_wp2_with fail
  refine (bools_new _ M _ (RowAt_alloc (RowAt_alloc R.out _) _) (by omega)).mono ?_
  rintro e w1 ⟨v1, rfl, R1, hb1⟩
  obtain ⟨a1, c1, rfl, _⟩ := bshape R1.1
  obtain ⟨hc1, hf1⟩ := bcell hb1
  have hz1 := blt hb1
  have hy1 := hb1.size
  simp at hy1
  (try have kw1_0 : w.heap.size < w1.heap.size := by omega); (try have kw1_1 : w.heap.size + 1 < w1.heap.size := by omega)
  have R1' : Hid (RowNew (w.heap.size + 1 + 1) w1 1 (.slice a1 M.length c1) (bcells M)) := RowNew_mono R1 (by simp)
  clear R1
  go_wp2
  refine bodyPost_ret (v := .agg #[.slice a1 M.length c1, .bool out, .int .i64 u, .int .i64 t]) ?_ rfl ⟨_, rfl, ?_, (by repeat (first | (with_reducible exact Below.refl _ _) | (with_reducible assumption) | (with_reducible refine Below.drew ?_) | (with_reducible refine Below_drewN ?_) | (with_reducible refine Below.alloc ?_ (by first | omega | (simp; done) | (simp; omega)) _) | (with_reducible refine Below.setCell ?_ (by first | omega | (simp; done) | (simp; omega)) _) | (with_reducible refine Below.trans ?_ (Below.mono (by assumption) (by first | omega | (simp; done) | (simp; omega))))))⟩
  · simp [results, Try.results15, go_sem, *]
  · refine RowNew_at (B := w.heap.size) ?_
    exact (by refine RowNew_mono (B := w.heap.size + 1 + 1) ?_ (by first | omega | (simp; done) | (simp; omega)); repeat (first | (with_reducible exact R1'.out) | (with_reducible refine RowNew_setCell ?_ (by first | omega | (simp; done) | (simp; omega)) _) | (with_reducible refine RowNew_alloc ?_ _) | (with_reducible refine RowNew_drewN ?_ _)))
end Go.Proofs.Ytjnfnmbkmgjdlaa

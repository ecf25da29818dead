/- table.Put and usherref.FlowPut: their contracts. -/
import Derived.Test.YtbemdijjdeimgaaTabWith
import Derived.Test.YtbemdijjdeimgaaIxSl
import Derived.Deep.RegionWith
namespace Go.Proofs.Ytbemdijjdeimgaa
open Go.RowKit

/-- The end of Put: a table, a handle, a number. -/
def PutPost (w : World) (Y : List Sl) (h : Hd) (code : Int) (e : Ending) (w' : World) : Prop := ∃ v, e = .returned (.tuple #[.agg #[v], .agg #[.int .i64 h.slot, .int .i64 h.gen], .int .i64 code]) ∧ RowNew w.heap.size w' 4 v (Y.map Sl.cells) ∧ Below w.heap.size w w'
def freeB (x : Sl) : Bool := !x.used && decide (x.gen < 1048576)

set_option maxHeartbeats 1000000 in
set_option maxRecDepth 100000 in
theorem Put1_any (x : Sl) (w : World) : Calls Try.prog 29 #[Sl.agg x] w fun e w' => e = .returned (.bool (freeB x)) ∧ Below w.heap.size w w' := by
  obtain ⟨g, u, k, b⟩ := x
  unfold freeB Sl.agg
  cases u with
  | true =>
    go_enter Try.func29, Try.ntmps29
    go_wp2
    all_goals first | (go_ret; exact ⟨rfl, (by repeat (first | (with_reducible exact Below.refl _ _) | (with_reducible assumption) | (with_reducible refine Below.drew ?_) | (with_reducible refine Below_drewN ?_) | (with_reducible refine Below.alloc ?_ (by first | omega | (simp; done) | (simp; omega)) _) | (with_reducible refine Below.setCell ?_ (by first | omega | (simp; done) | (simp; omega)) _) | (with_reducible refine Below.trans ?_ (Below.mono (by assumption) (by first | omega | (simp; done) | (simp; omega))))))⟩) | (exfalso; first | omega | (simp at *; omega) | (simp at *; done))
  | false =>
    by_cases h : g < 1048576
    · have HD := Lib.hid h
      go_enter Try.func29, Try.ntmps29
      go_wp2
      all_goals first | (go_ret; exact ⟨rB (by first | rfl | (simp; exact HD.out)), (by repeat (first | (with_reducible exact Below.refl _ _) | (with_reducible assumption) | (with_reducible refine Below.drew ?_) | (with_reducible refine Below_drewN ?_) | (with_reducible refine Below.alloc ?_ (by first | omega | (simp; done) | (simp; omega)) _) | (with_reducible refine Below.setCell ?_ (by first | omega | (simp; done) | (simp; omega)) _) | (with_reducible refine Below.trans ?_ (Below.mono (by assumption) (by first | omega | (simp; done) | (simp; omega))))))⟩) | (exfalso; first | omega | (simp at *; omega) | (simp at *; done))
    · have hd : decide (g < 1048576) = false := by simpa using h
      have HD := Lib.hid h
      clear h
      go_enter Try.func29, Try.ntmps29
      go_wp2
      all_goals first | (go_ret; exact ⟨rB (by first | rfl | (simp; have := HD.out; omega)), (by repeat (first | (with_reducible exact Below.refl _ _) | (with_reducible assumption) | (with_reducible refine Below.drew ?_) | (with_reducible refine Below_drewN ?_) | (with_reducible refine Below.alloc ?_ (by first | omega | (simp; done) | (simp; omega)) _) | (with_reducible refine Below.setCell ?_ (by first | omega | (simp; done) | (simp; omega)) _) | (with_reducible refine Below.trans ?_ (Below.mono (by assumption) (by first | omega | (simp; done) | (simp; omega))))))⟩) | (exfalso; first | omega | (simp at *; omega) | (simp at *; done))

set_option maxHeartbeats 4000000 in
set_option maxRecDepth 100000 in
theorem prog_Put_bad (v : Value) (X : List Sl) (ky bb : Int) (w : World) (r : RowAt w 4 v (X.map Sl.cells)) (h : ¬ TabMay X) : Calls Try.prog 18 #[.agg #[v], .int .i64 ky, .int .i64 bb] w (PutPost w [] ⟨0, 0⟩ 6) := by
  have R := Lib.hid r
  have H := Lib.hid h
  obtain ⟨a, c, rfl, _⟩ := RowAt_shape r
  clear r h
  go_enter Try.func18, Try.ntmps18
  go_wp2_with (go_at_call 25; refine (tabCheck_bad _ X _ (RowAt_alloc (RowAt_alloc (RowAt_alloc R.out _) _) _) H.out).mono ?_; rintro e w1 ⟨rfl, hb1⟩; obtain ⟨hc1, hf1⟩ := bcell hb1; have hz1 := blt hb1; have hy1 := hb1.size; (try simp at hy1))
  refine bodyPost_ret (v := .tuple #[.agg #[.slice none 0 0], .agg #[.int .i64 0, .int .i64 0], .int .i64 6]) ?_ rfl ⟨_, rfl, RowNew_nil _ _ _, (by repeat (first | (with_reducible exact Below.refl _ _) | (with_reducible assumption) | (with_reducible refine Below.drew ?_) | (with_reducible refine Below_drewN ?_) | (with_reducible refine Below.alloc ?_ (by first | omega | (simp; done) | (simp; omega)) _) | (with_reducible refine Below.setCell ?_ (by first | omega | (simp; done) | (simp; omega)) _) | (with_reducible refine Below.trans ?_ (Below.mono (by assumption) (by first | omega | (simp; done) | (simp; omega))))))⟩
  simp [results, Try.results18, go_sem, *]

set_option maxHeartbeats 4000000 in
set_option maxRecDepth 100000 in
theorem prog_Put_range (v : Value) (X : List Sl) (ky bb : Int) (w : World) (r : RowAt w 4 v (X.map Sl.cells)) (h : TabMay X) (h2 : ky < 0 ∨ (0 ≤ ky ∧ 4294967295 < ky) ∨ (0 ≤ ky ∧ ky ≤ 4294967295 ∧ bb < 0) ∨ (0 ≤ ky ∧ ky ≤ 4294967295 ∧ 0 ≤ bb ∧ 12 ≤ bb)) : Calls Try.prog 18 #[.agg #[v], .int .i64 ky, .int .i64 bb] w (PutPost w [] ⟨0, 0⟩ 2) := by
  have R := Lib.hid r
  have H := Lib.hid h
  obtain ⟨a, c, rfl, _⟩ := RowAt_shape r
  clear r h
  rcases h2 with h2 | ⟨h2, h3⟩ | ⟨h2, h3, h4⟩ | ⟨h2, h3, h4, h5⟩
  all_goals
    go_enter Try.func18, Try.ntmps18
    go_wp2_with (go_at_call 25; refine (tabCheck_ok _ X _ (RowAt_alloc (RowAt_alloc (RowAt_alloc R.out _) _) _) H.out).mono ?_; rintro e w1 ⟨rfl, hb1⟩; obtain ⟨hc1, hf1⟩ := bcell hb1; have hz1 := blt hb1; have hy1 := hb1.size; (try simp at hy1))
    refine bodyPost_ret (v := .tuple #[.agg #[.slice none 0 0], .agg #[.int .i64 0, .int .i64 0], .int .i64 2]) ?_ rfl ⟨_, rfl, RowNew_nil _ _ _, (by repeat (first | (with_reducible exact Below.refl _ _) | (with_reducible assumption) | (with_reducible refine Below.drew ?_) | (with_reducible refine Below_drewN ?_) | (with_reducible refine Below.alloc ?_ (by first | omega | (simp; done) | (simp; omega)) _) | (with_reducible refine Below.setCell ?_ (by first | omega | (simp; done) | (simp; omega)) _) | (with_reducible refine Below.trans ?_ (Below.mono (by assumption) (by first | omega | (simp; done) | (simp; omega))))))⟩
    simp [results, Try.results18, go_sem, *]

theorem callable_Put1 : ∀ args w, (callFunc 29 args).run Try.prog w = .ok (.enter 29 args) w := fun _ _ => by kernel_rfl

set_option maxHeartbeats 4000000 in
set_option maxRecDepth 100000 in
theorem prog_Put_full (v : Value) (X : List Sl) (ky bb : Int) (w : World) (r : RowAt w 4 v (X.map Sl.cells)) (h : TabMay X) (k1 : 0 ≤ ky) (k2 : ky ≤ 4294967295) (b1 : 0 ≤ bb) (b2 : bb ≤ 11) (hf : idxOf freeB X = -1) : Calls Try.prog 18 #[.agg #[v], .int .i64 ky, .int .i64 bb] w (PutPost w [] ⟨0, 0⟩ 9) := by
  have R := Lib.hid r
  have H := Lib.hid h
  have HF := Lib.hid hf
  have hl : X.length ≤ 40 := h.2.1
  obtain ⟨a, c, rfl, _⟩ := RowAt_shape r
  have b3 : bb < 12 := by omega
  clear r h hf
  go_enter Try.func18, Try.ntmps18
  go_wp2_with (go_at_call 25; refine (tabCheck_ok _ X _ (RowAt_alloc (RowAt_alloc (RowAt_alloc R.out _) _) _) H.out).mono ?_; rintro e w1 ⟨rfl, hb1⟩; obtain ⟨hc1, hf1⟩ := bcell hb1; have hz1 := blt hb1; have hy1 := hb1.size; (try simp at hy1))
  refine (ixSl_any _ #[] callable_Put1 freeB _ X _ (RowAt_below (RowAt_alloc (RowAt_alloc (RowAt_alloc R.out _) _) _) hb1) (by omega) (fun x _ w' _ => Put1_any x w')).mono ?_
  rintro e w2 ⟨rfl, hb2⟩
  obtain ⟨hc2, hf2⟩ := bcell hb2
  have hz2 := blt hb2
  have hy2 := hb2.size
  (try have kw1_0 : w.heap.size < w1.heap.size := by omega); (try have kw1_1 : w.heap.size + 1 < w1.heap.size := by omega); (try have kw1_2 : w.heap.size + 1 + 1 < w1.heap.size := by omega)
  (try have kw2_0 : w.heap.size < w2.heap.size := by omega); (try have kw2_1 : w.heap.size + 1 < w2.heap.size := by omega); (try have kw2_2 : w.heap.size + 1 + 1 < w2.heap.size := by omega)
  rw [HF.out]
  go_wp2
  refine bodyPost_ret (v := .tuple #[.agg #[.slice none 0 0], .agg #[.int .i64 0, .int .i64 0], .int .i64 9]) ?_ rfl ⟨_, rfl, RowNew_nil _ _ _, (by repeat (first | (with_reducible exact Below.refl _ _) | (with_reducible assumption) | (with_reducible refine Below.drew ?_) | (with_reducible refine Below_drewN ?_) | (with_reducible refine Below.alloc ?_ (by first | omega | (simp; done) | (simp; omega)) _) | (with_reducible refine Below.setCell ?_ (by first | omega | (simp; done) | (simp; omega)) _) | (with_reducible refine Below.trans ?_ (Below.mono (by assumption) (by first | omega | (simp; done) | (simp; omega))))))⟩
  simp [results, Try.results18, go_sem, *]

set_option maxHeartbeats 4000000 in
set_option maxRecDepth 100000 in
theorem prog_Put_ok (v : Value) (X : List Sl) (i : Nat) (ky bb : Int) (w : World) (r : RowAt w 4 v (X.map Sl.cells)) (h : TabMay X) (k1 : 0 ≤ ky) (k2 : ky ≤ 4294967295) (b1 : 0 ≤ bb) (b2 : bb ≤ 11) (hi : i < X.length) (hf : idxOf freeB X = i) :
    Calls Try.prog 18 #[.agg #[v], .int .i64 ky, .int .i64 bb] w (PutPost w (X.set i ⟨(X.getD i Sl.zero).gen, true, ky, bb⟩) ⟨i, (X.getD i Sl.zero).gen⟩ 0) := by
  have R := Lib.hid r
  have H := Lib.hid h
  have HF := Lib.hid hf
  have hl : X.length ≤ 40 := h.2.1
  obtain ⟨a, c, rfl, l, m, n, p⟩ := RowAt_fn Sl.zero r
  obtain ⟨b0, o0, rfl, hb0, q⟩ := p (by intro hX; rw [hX] at hi; simp at hi)
  have hi' : (i : Int) < (X.length : Int) := by omega
  obtain ⟨s, hs⟩ : ∃ s, s = X.getD i Sl.zero := ⟨_, rfl⟩
  rw [← hs]
  have a0 : w.cell? ⟨b0, o0 + i * 4, none⟩ = some (.int .i64 s.gen) := by rw [hs]; exact q i 0 hi (by omega)
  have b3 : bb < 12 := by omega
  have hb2' : b0 < w.heap.size + 1 := by omega
  have hb3 : b0 < w.heap.size + 1 + 1 := by omega
  have hb4 : b0 < w.heap.size + 1 + 1 + 1 := by omega
  obtain ⟨g, u0, k0, bb0⟩ := s
  simp only at a0 ⊢
  clear r h hf hs q p l m n
  go_enter Try.func18, Try.ntmps18
  go_wp2_with (go_at_call 25; refine (tabCheck_ok _ X _ (RowAt_alloc (RowAt_alloc (RowAt_alloc R.out _) _) _) H.out).mono ?_; rintro e w1 ⟨rfl, hb1⟩; obtain ⟨hc1, hf1⟩ := bcell hb1; have hz1 := blt hb1; have hy1 := hb1.size; (try simp at hy1))
  (try have kw1_0 : w.heap.size < w1.heap.size := by omega); (try have kw1_1 : w.heap.size + 1 < w1.heap.size := by omega); (try have kw1_2 : w.heap.size + 1 + 1 < w1.heap.size := by omega)
  refine (ixSl_any _ #[] callable_Put1 freeB _ X _ (RowAt_below (RowAt_alloc (RowAt_alloc (RowAt_alloc R.out _) _) _) hb1) (by omega) (fun x _ w' _ => Put1_any x w')).mono ?_
  rintro e w2 ⟨rfl, hb2⟩
  obtain ⟨hc2, hf2⟩ := bcell hb2
  have hz2 := blt hb2
  have hy2 := hb2.size
  (try have kw2_0 : w.heap.size < w2.heap.size := by omega); (try have kw2_1 : w.heap.size + 1 < w2.heap.size := by omega); (try have kw2_2 : w.heap.size + 1 + 1 < w2.heap.size := by omega)
  have l0 : b0 < w1.heap.size := by omega
  rw [HF.out]
  have R2 := Lib.hid (RowAt_below (RowAt_below (RowAt_alloc (RowAt_alloc (RowAt_alloc R.out (.cells #[.slice (some ⟨b0, o0, none⟩) X.length c] 24)) (.cells #[.slice none 0 0] 24)) (.cells #[.int .i64 0, .int .i64 0] 26)) hb1) hb2)
  go_wp2_with fail
  refine (prog_with _ X i g true ky bb _ R2.out hl hi).mono ?_
  rintro e w3 ⟨v3, rfl, R3, hb3⟩
  obtain ⟨a3, c3, rfl, _⟩ := RowAt_shape R3.1
  obtain ⟨hc3, hf3⟩ := bcell hb3
  have hz3 := blt hb3
  have hy3 := hb3.size
  (try have kw3_0 : w.heap.size < w3.heap.size := by omega); (try have kw3_1 : w.heap.size + 1 < w3.heap.size := by omega); (try have kw3_2 : w.heap.size + 1 + 1 < w3.heap.size := by omega)
  have R3' : Hid (RowNew w2.heap.size w3 4 (.slice a3 X.length c3) ((X.set i ⟨g, true, ky, bb⟩).map Sl.cells)) := by have h := R3; simp only [List.length_set] at h; exact h
  clear R3
  go_wp2
  refine bodyPost_ret (v := .tuple #[.agg #[.slice a3 X.length c3], .agg #[.int .i64 i, .int .i64 g], .int .i64 0]) ?_ rfl ⟨_, rfl, ?_, (by repeat (first | (with_reducible exact Below.refl _ _) | (with_reducible assumption) | (with_reducible refine Below.drew ?_) | (with_reducible refine Below_drewN ?_) | (with_reducible refine Below.alloc ?_ (by first | omega | (simp; done) | (simp; omega)) _) | (with_reducible refine Below.setCell ?_ (by first | omega | (simp; done) | (simp; omega)) _) | (with_reducible refine Below.trans ?_ (Below.mono (by assumption) (by first | omega | (simp; done) | (simp; omega))))))⟩
  · simp [results, Try.results18, go_sem, *]
  · exact (by refine RowNew_mono (B := w2.heap.size) ?_ (by first | omega | (simp; done) | (simp; omega)); repeat (first | exact R3'.out | refine RowNew_setCell ?_ (by first | omega | (simp; done) | (simp; omega)) _ | refine RowNew_alloc ?_ _ | refine RowNew_drewN ?_ _))
end Go.Proofs.Ytbemdijjdeimgaa

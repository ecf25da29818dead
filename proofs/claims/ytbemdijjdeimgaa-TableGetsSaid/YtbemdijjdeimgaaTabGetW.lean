/- The walk of TableGets. -/
import Derived.Test.YtbemdijjdeimgaaTabGetR
import Derived.Test.YtbemdijjdeimgaaTabCopy
import Derived.Deep.RegionWith
namespace Go.Proofs.Ytbemdijjdeimgaa
open Go.RowKit

theorem RowAt_drew {w : World} {sz : Nat} {v : Value} {L : List (List Value)} (h : RowAt w sz v L) : RowAt w.drew sz v L := RowAt_drewN h 1

set_option maxHeartbeats 4000000 in
set_option maxRecDepth 100000 in
theorem tabget_walk (X : List Sl) (sl gn : Int) (o : Sl) (code : Int) (s : Value) (W : World) (r : RowAt W 4 s (X.map Sl.cells)) (hn : X.length * 32 ≤ 140737488351232)
    (h1 : ∀ (v : Value) (w : World), RowAt w 4 v (X.map Sl.cells) → Calls Try.prog 9 #[.agg #[v], .agg #[.int .i64 sl, .int .i64 gn]] w fun e w' => e = .returned (.tuple #[.agg #[.int .i64 o.gen, .bool o.used, .int .i64 o.key, .int .i64 o.backend], .int .i64 code]) ∧ Below w.heap.size w w')
    (h2 : ∀ (v : Value) (w : World), RowAt w 4 v (X.map Sl.cells) → Calls Try.prog 11 #[.agg #[v], .agg #[.int .i64 sl, .int .i64 gn]] w fun e w' => e = .returned (.tuple #[.agg #[.int .i64 o.gen, .bool o.used, .int .i64 o.key, .int .i64 o.backend], .int .i64 code]) ∧ Below w.heap.size w w') :
    Calls Try.prog 3 #[.agg #[s], .agg #[.int .i64 sl, .int .i64 gn]] W fun e w' => e = .returned (.bool true) ∧ Below W.heap.size W w' := by
  obtain ⟨a, c, rfl, _⟩ := RowAt_shape r
  have H1 := Lib.hid h1
  have H2 := Lib.hid h2
  have R := Lib.hid r
  have HN := Lib.hid hn
  clear h1 h2 r hn
  obtain ⟨g, u, ky, b⟩ := o
  go_enter Try.func3, Try.ntmps3
  go_wp2_with fail
  go_region_with (first
    | (go_at_call 10; (refine (tables_copy _ X _ ?_ HN.out).mono ?_; (repeat (first | (with_reducible exact R.out) | refine RowAt_alloc ?_ _ | refine RowAt_drew ?_)); rintro e w1 ⟨v1, rfl, R1, hb1⟩; have R1a := R1.1; clear R1; obtain ⟨a1, c1, rfl, _⟩ := RowAt_shape R1a; obtain ⟨hc1, hf1⟩ := bcell hb1; have hz1 := blt hb1; have s1 := hb1.size; (try simp at s1); have k1 : W.heap.size < w1.heap.size := (by omega); have k2 : W.heap.size + 1 < w1.heap.size := (by omega); have k3 : W.heap.size < w1.heap.size + 1 := (by omega); have k4 : W.heap.size + 1 < w1.heap.size + 1 := (by omega)))
    | (go_at_call 9; refine (H1.out _ _ ?_).mono ?_; (repeat (first | (with_reducible exact R1a) | refine RowAt_alloc ?_ _)); rintro e w2 ⟨rfl, hb2⟩; obtain ⟨hc2, hf2⟩ := bcell hb2; have hz2 := blt hb2; have s2 := hb2.size; (try simp at s2); have k5 : W.heap.size < w2.heap.size := (by omega); have k6 : W.heap.size + 1 < w2.heap.size := (by omega); have k7 : W.heap.size < w2.heap.size + 1 := (by omega); have k8 : W.heap.size + 1 < w2.heap.size + 1 := (by omega)))
  all_goals
    (try have m1 : w1.heap.size < w2.heap.size := (by omega))
    (try have m2 : W.heap.size + 1 + 1 < w1.heap.size := (by omega))
    (try have m3 : W.heap.size + 1 + 1 < w2.heap.size := (by omega))
    (try have m4 : W.heap.size + 1 + 1 < w1.heap.size + 1 := (by omega))
    (try have m5 : W.heap.size + 1 + 1 < w2.heap.size + 1 := (by omega))
    (try have m6 : w1.heap.size < w2.heap.size + 1 := (by omega))
    go_wp2_with (first | (go_at_call 11; refine (H2.out _ _ (RowAt_below R.out ?_)).mono ?_; exact (by repeat (first | (with_reducible exact Below.refl _ _) | (with_reducible assumption) | (with_reducible refine Below.drew ?_) | (with_reducible refine Below_drewN ?_) | (with_reducible refine Below.alloc ?_ (by first | omega | (simp; done) | (simp; omega)) _) | (with_reducible refine Below.setCell ?_ (by first | omega | (simp; done) | (simp; omega)) _) | (with_reducible refine Below.trans ?_ (Below.mono (by assumption) (by first | omega | (simp; done) | (simp; omega)))))); rintro e w3 ⟨rfl, hb3⟩; obtain ⟨hc3, hf3⟩ := bcell hb3; have hz3 := blt hb3; have s3 := hb3.size; (try simp at s3); (try have m7 : w1.heap.size < w3.heap.size := (by omega)); (try have m8 : w2.heap.size < w3.heap.size := (by omega)); (try have m9 : W.heap.size + 1 + 1 < w3.heap.size := (by omega)); (try have m10 : W.heap.size + 1 < w3.heap.size := (by omega)); (try have m11 : W.heap.size < w3.heap.size := (by omega)); (try have m12 : w1.heap.size < w3.heap.size + 1 := (by omega)); (try have m13 : w2.heap.size < w3.heap.size + 1 := (by omega)); (try have m14 : W.heap.size + 1 + 1 < w3.heap.size + 1 := (by omega))))
  all_goals first | (go_ret; exact ⟨rfl, (by repeat (first | (with_reducible exact Below.refl _ _) | (with_reducible assumption) | (with_reducible refine Below.drew ?_) | (with_reducible refine Below_drewN ?_) | (with_reducible refine Below.alloc ?_ (by first | omega | (simp; done) | (simp; omega)) _) | (with_reducible refine Below.setCell ?_ (by first | omega | (simp; done) | (simp; omega)) _) | (with_reducible refine Below.trans ?_ (Below.mono (by assumption) (by first | omega | (simp; done) | (simp; omega))))))⟩) | (exfalso; first | omega | (simp at *; omega) | (simp at *; done))

theorem walk_TableGets (v0 v1 : Value) (W : World) (o0 : Is_Table W v0) (o1 : Is_Handle W v1) :
    Calls Try.prog 3 #[v0, v1] W fun e w' => e = .returned (.bool true) ∧ Below W.heap.size W w' := by
  obtain ⟨s, X, rfl, r, _, hn⟩ := o0
  obtain ⟨sl, gn, rfl, _, _⟩ := o1
  obtain ⟨o, code, h⟩ := GetRes_total X sl gn
  exact tabget_walk X sl gn o code s W r hn (fun v w r => prog_Get X sl gn o code v w r h) (fun v w r => ref_FlowGot X sl gn o code v w r h)
end Go.Proofs.Ytbemdijjdeimgaa

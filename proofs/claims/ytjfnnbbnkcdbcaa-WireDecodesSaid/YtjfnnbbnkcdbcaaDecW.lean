/- The walk of WireDecodes. -/
import Derived.Test.YtjfnnbbnkcdbcaaDecR
import Derived.Test.YtjfnnbbnkcdbcaaNumB
import Derived.Test.YtjfnnbbnkcdbcaaOctets
import Derived.Test.YtjfnnbbnkcdbcaaOpenU8
namespace Go.Proofs.Ytjfnnbbnkcdbcaa
open Go.RowKit

theorem prog_Dec (v : Value) (L : List Int) (x : Ev) (c : Int) (w : World) (hB : IsB L) (r : RowAt w 1 v (byts L)) (h : DecAns L x c) : Calls Try.prog 15 #[v] w (DecPost w x c) := by
  rcases h with ⟨h, rfl, hc⟩ | ⟨h, rfl, hc⟩ | ⟨h1, h2, h3, rfl, hc⟩ | ⟨h1, h2, h3, h4, h5⟩
  · exact prog_Dec_bad v L c w hB r (Or.inl ⟨h, hc⟩)
  · exact prog_Dec_bad v L c w hB r (Or.inr (Or.inl ⟨h, hc⟩))
  · exact prog_Dec_bad v L c w hB r (Or.inr (Or.inr ⟨h1, h2, h3, hc⟩))
  · exact prog_Dec_ok v L x c w hB r ⟨h1, h2, h3, h4, h5⟩
theorem ref_Dec (v : Value) (L : List Int) (x : Ev) (c : Int) (w : World) (hB : IsB L) (r : RowAt w 1 v (byts L)) (h : DecAns L x c) : Calls Try.prog 16 #[v] w (DecPost w x c) := by
  rcases h with ⟨h, rfl, hc⟩ | ⟨h, rfl, hc⟩ | ⟨h1, h2, h3, rfl, hc⟩ | ⟨h1, h2, h3, h4, h5⟩
  · exact ref_Dec_bad v L c w hB r (Or.inl ⟨h, hc⟩)
  · exact ref_Dec_bad v L c w hB r (Or.inr (Or.inl ⟨h, hc⟩))
  · exact ref_Dec_bad v L c w hB r (Or.inr (Or.inr ⟨h1, h2, h3, hc⟩))
  · exact ref_Dec_ok v L x c w hB r ⟨h1, h2, h3, h4, h5⟩

set_option maxHeartbeats 4000000 in
set_option maxRecDepth 100000 in
theorem walk_WireDecodes (v0 : Value) (W : World) (o0 : Is_sl_uint8 W v0) :
    Calls Try.prog 5 #[v0] W fun e w' => e = .returned (.bool true) ∧ Below W.heap.size W w' := by
  obtain ⟨L, r', hB, hn⟩ := o0
  have r : RowAt W 1 v0 (byts L) := r'
  clear r'
  obtain ⟨x, c, hA⟩ := DecAns_total L
  have HP : Hid (∀ v w, RowAt w 1 v (byts L) → Calls Try.prog 15 #[v] w (DecPost w x c)) := fun v w r => prog_Dec v L x c w hB r hA
  have HR : Hid (∀ v w, RowAt w 1 v (byts L) → Calls Try.prog 16 #[v] w (DecPost w x c)) := fun v w r => ref_Dec v L x c w hB r hA
  have HO : Hid (∀ w v, RowAt w 1 v (byts L) → Calls Try.prog 14 #[v] w (CopyPost w 1 (byts L))) := fun w v r => octets_copy v L w r hn
  obtain ⟨av, cv, rfl, _⟩ := RowAt_shape r
  have RV := Lib.hid r
  clear hA hB hn r
  go_enter Try.func5, Try.ntmps5
  go_wp2_with fail
  refine (HO.out _ _ RV.out).mono ?_
  rintro e w1 ⟨v1, rfl, R1, hb1⟩
  obtain ⟨a1, c1, rfl, _⟩ := RowAt_shape R1
  have RV1 := Lib.hid (RowAt_below RV.out hb1)
  have RC1 := Lib.hid R1
  have B1 := Lib.hid hb1
  clear R1 hb1
  go_wp2_with fail
  refine (HP.out _ _ RC1.out).mono ?_
  rintro e w2 ⟨rfl, hb2⟩
  have RV2 := Lib.hid (RowAt_below RV1.out hb2)
  have RC2 := Lib.hid (RowAt_below RC1.out hb2)
  have B2 := Lib.hid (B1.out.trans (hb2.mono B1.out.size))
  clear hb2
  obtain ⟨x0, x1, x2, x3, x4, x5, x6, x7⟩ := x
  unfold Ev.agg
  go_wp2_with fail
  refine (HR.out _ _ (RowAt_alloc RV2.out _)).mono ?_
  rintro e w3 ⟨rfl, hb3⟩
  have RV3 := Lib.hid (RowAt_below (RowAt_alloc RV2.out _) hb3)
  have RC3 := Lib.hid (RowAt_below (RowAt_alloc RC2.out _) hb3)
  have B3 := Lib.hid ((B2.out.alloc B2.out.size (.cells #[.int .i64 x0, .int .i64 x1, .int .i64 x2, .int .i64 x3, .bool x4, .int .i64 x5, .int .i64 x6, .int .i64 x7] 23)).trans (hb3.mono (by have := B2.out.size; simp; omega)))
  have x0' := blk_below hb3 (heap_at (w := w2) (.cells #[.int .i64 x0, .int .i64 x1, .int .i64 x2, .int .i64 x3, .bool x4, .int .i64 x5, .int .i64 x6, .int .i64 x7] 23) rfl) (by first | omega | (simp; done) | (simp; omega))
  have s3 := hb3.size
  simp at s3
  have m2 : w2.heap.size < w3.heap.size := by omega
  have d0 := blk_cell x0' 0
  have d1 := blk_cell x0' 1
  have d2 := blk_cell x0' 2
  have d3 := blk_cell x0' 3
  have d4 := blk_cell x0' 4
  have d5 := blk_cell x0' 5
  have d6 := blk_cell x0' 6
  have d7 := blk_cell x0' 7
  simp at d0 d1 d2 d3 d4 d5 d6 d7
  clear hb3 x0'
  unfold Ev.agg
  go_wp2_with (go_at_call 13; refine (sameBytes_yes _ _ L _ (RowAt_alloc RC3.out _) (RowAt_alloc RV3.out _)).mono ?_; rintro e w4 ⟨rfl, hb4⟩; have B4 := (B3.out.alloc B3.out.size (.cells #[.int .i64 x0, .int .i64 x1, .int .i64 x2, .int .i64 x3, .bool x4, .int .i64 x5, .int .i64 x6, .int .i64 x7] 23)).trans (hb4.mono (by have := B3.out.size; simp; omega)))
  all_goals first | (go_ret; exact ⟨rfl, B4⟩) | (exfalso; first | omega | (simp at *; omega) | (simp at *; done))
end Go.Proofs.Ytjfnnbbnkcdbcaa

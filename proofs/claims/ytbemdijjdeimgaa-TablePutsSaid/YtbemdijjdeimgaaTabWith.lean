/- table.with and usherref.changedSlot: their contracts. -/
import Derived.Test.YtbemdijjdeimgaaTabOfP
import Derived.Test.YtbemdijjdeimgaaCloneSl
import Derived.Deep.RegionHeld3
import Derived.Deep.RegionLaw
import Derived.Deep.AppendLies
import Derived.Outline
namespace Go.Proofs.Ytbemdijjdeimgaa
open Go.RowKit

/-- The end of with and of changedSlot. -/
def WithPost (w : World) (X : List Sl) (e : Ending) (w' : World) : Prop := ∃ v, e = .returned (.agg #[v]) ∧ RowNew w.heap.size w' 4 v (X.map Sl.cells) ∧ Below w.heap.size w w'

set_option maxHeartbeats 4000000 in
set_option maxRecDepth 100000 in
theorem prog_with (v : Value) (X : List Sl) (i : Nat) (g : Int) (u : Bool) (ky bb : Int) (w : World) (r : RowAt w 4 v (X.map Sl.cells)) (hn : X.length ≤ 40) (hi : i < X.length) :
    Calls Try.prog 30 #[.agg #[v], .int .i64 i, .agg #[.int .i64 g, .bool u, .int .i64 ky, .int .i64 bb]] w (WithPost w (X.set i ⟨g, u, ky, bb⟩)) := by
  have R := Lib.hid r
  obtain ⟨a, c, rfl, _⟩ := RowAt_shape r
  have hi' : (i : Int) < (X.length : Int) := by omega
  clear r
  go_enter Try.func30, Try.ntmps30
  go_wp2_with fail
  refine (cloneSl _ X _ (RowAt_alloc (RowAt_alloc (RowAt_alloc R.out _) _) _) (by omega)).mono ?_
  rintro e w1 ⟨v1, rfl, hown, hb1⟩
  have hX : 0 < X.length := by omega
  have O := Lib.hid hown
  obtain ⟨gg, cap, cur, rfl, hgg, hcc⟩ : ∃ gg cap cur, v1 = .slice (some ⟨gg, 0, none⟩) X.length cap ∧ ((w.alloc (.cells #[.slice a X.length c] 24)).alloc (.cells #[.int .i64 g, .bool u, .int .i64 ky, .int .i64 bb] 28) |>.alloc (.cells #[.slice none 0 0] 24)).heap.size ≤ gg ∧ w1.heap[gg]? = some (.cells cur 28 (0, 0)) := by
    rcases hown.2 with ⟨_, h0⟩ | ⟨gg, cap, cur, e, h1, h2, _⟩
    · omega
    · exact ⟨gg, cap, cur, e, h1, h2⟩
  obtain ⟨hc1, hf1⟩ := bcell hb1
  have hz1 := blt hb1
  have hy1 := hb1.size
  simp at hy1 hgg
  have q : ∀ j, j < 4 → w1.cell? ⟨gg, i * 4 + j, none⟩ = ((X.getD i Sl.zero).cells)[j]? ∧ w1.frozen? ⟨gg, i * 4 + j, none⟩ = false := by
    intro j hj
    refine ⟨?_, O.out.frozenAt _⟩
    rw [O.out.cellAt _ (by omega), flatten_get (lenc_Sl X) i j (by simpa using hi) hj]
    simp [List.getD, hi]
  generalize hs : (X.getD i Sl.zero) = s at q
  obtain ⟨t0, t1, t2, t3⟩ := s
  have q0 := q 0 (by omega)
  have q1 := q 1 (by omega)
  have q2 := q 2 (by omega)
  have q3 := q 3 (by omega)
  simp only [Sl.cells, List.getElem?_cons_zero, List.getElem?_cons_succ, Nat.add_zero] at q0 q1 q2 q3
  obtain ⟨q00, q01⟩ := q0
  obtain ⟨q10, q11⟩ := q1
  obtain ⟨q20, q21⟩ := q2
  obtain ⟨q30, q31⟩ := q3
  clear q hs hown
  go_wp2
  refine bodyPost_ret (v := .agg #[.slice (some ⟨gg, 0, none⟩) X.length cap]) ?_ rfl ⟨_, rfl, ?_, ?_⟩
  · simp [results, Try.results30, go_sem, *]
  · refine RowNew_mono (RowNew_of_owns (base := w.heap.size + 1 + 1 + 1) (e := 28) (n := X.length) (L := (X.set i ⟨g, u, ky, bb⟩).map Sl.cells) ?_ (by simp) (lenc_Sl _)) (by omega)
    refine ownsRow_setCell_below ?_ (by simp) _
    have h := own_setMany [.int .i64 g, .bool u, .int .i64 ky, .int .i64 bb] (i * 4) (own_mono (base' := w.heap.size + 1 + 1 + 1) O.out (by simp)) (by rw [flatten_length (lenc_Sl X)]; simp; omega)
    rw [putL_flat (lenc_Sl X) rfl (by simpa using hi)] at h
    rw [List.map_set]
    exact h
  · exact ((((((((Below.refl _ _).alloc (Nat.le_refl _) _).alloc (by first | omega | (simp; done) | (simp; omega)) _).alloc (by first | omega | (simp; done) | (simp; omega)) _).trans (hb1.mono (by first | omega | (simp; done) | (simp; omega)))).setCell (by first | omega | (simp; done) | (simp; omega)) _).setCell (by first | omega | (simp; done) | (simp; omega)) _).setCell (by first | omega | (simp; done) | (simp; omega)) _).setCell (by first | omega | (simp; done) | (simp; omega)) _ |>.setCell (by first | omega | (simp; done) | (simp; omega)) _

theorem info_sl : (Try.prog.info? 28).map (fun i => (i.zero, i.size, i.bytes)) = some (some (.agg #[.int .i64 0, .bool false, .int .i64 0, .int .i64 0]), 4, 32) := by kernel_rfl
/-- What holds at the head of changedSlot's loop. -/
def ChRel (w wr : World) (s : Value) (o : Sl) (Y : List Sl) (k : Nat) : Prop := Below w.heap.size w wr ∧ wr.heap[w.heap.size]? = some (.cells #[s] 24 (0, 0)) ∧ wr.heap[w.heap.size + 1]? = some (.cells o.cells.toArray 28 (0, 0)) ∧ wr.heap[w.heap.size + 1 + 1]? = some (.cells #[.slice none 0 0] 24 (0, 0)) ∧
  ∃ (a : Option Addr) (cap : Nat), wr.heap[w.heap.size + 1 + 1 + 1]? = some (.cells #[.slice a k cap] 24 (0, 0)) ∧ wr.ownsRow (w.heap.size + 4) 28 4 (.slice a k cap) k ((Y.map Sl.cells).take k).flatten

theorem ChRel_step {w wr wx w1 : World} {s : Value} {o : Sl} {Y : List Sl} {n : Nat} {a a' : Option Addr} {cap cap' : Nat} {nw : Sl} (hb : Below w.heap.size w wr) (hh0 : wr.heap[w.heap.size]? = some (.cells #[s] 24 (0, 0))) (hh1 : wr.heap[w.heap.size + 1]? = some (.cells o.cells.toArray 28 (0, 0))) (hh2 : wr.heap[w.heap.size + 1 + 1]? = some (.cells #[.slice none 0 0] 24 (0, 0)))
    (hh3 : wr.heap[w.heap.size + 1 + 1 + 1]? = some (.cells #[.slice a n cap] 24 (0, 0))) (hown0 : wr.ownsRow (w.heap.size + 4) 28 4 (.slice a n cap) n ((Y.map Sl.cells).take n).flatten)
    (hx : Below wr.heap.size wr wx) (hgrow : wx.grownBy w1 (Value.slice a n cap).ownBlock) (hown : w1.ownsRow (w.heap.size + 4) 28 4 (.slice a' (n + 1) cap') (n + 1) (((Y.map Sl.cells).take n).flatten ++ nw.cells)) (hlt : n < Y.length) (hnw : nw = Y.getD n Sl.zero) :
    ChRel w (w1.setCell ⟨w.heap.size + 1 + 1 + 1, 0, none⟩ (.slice a' (n + 1) cap')) s o Y (n + 1) := by
  have hl := lt_of_block hh3
  have B := grown_below (B := w.heap.size + 4) hx (by omega) hown0 hgrow
  have e : ((Y.map Sl.cells).take (n + 1)).flatten = ((Y.map Sl.cells).take n).flatten ++ nw.cells := by
    rw [List.take_succ_eq_append_getElem (by simpa using hlt), List.flatten_append, hnw]
    simp [List.getD, hlt]
  refine ⟨(hb.trans (B.mono (by omega))).setCell (by simp; omega) _, blk_set_ne (blk_below B hh0 (by omega)) (by omega), blk_set_ne (blk_below B hh1 (by omega)) (by omega), blk_set_ne (blk_below B hh2 (by omega)) (by omega), a', cap', ?_, ?_⟩
  · exact one_setCell (blk_below B hh3 (by omega))
  · rw [e]; exact ownsRow_setCell_below hown (by simp) _

set_option maxHeartbeats 4000000 in
set_option maxRecDepth 100000 in
theorem ref_changed (b0 o0 c0 : Nat) (X : List Sl) (i : Nat) (g : Int) (u : Bool) (ky bb : Int) (w : World) (hb0 : b0 < w.heap.size) (hn : X.length ≤ 40) (h1 : ∀ i j, i < X.length → j < 4 → w.cell? ⟨b0, o0 + i * 4 + j, none⟩ = (X.getD i Sl.zero).cells[j]?) (hi : i < X.length) :
    Calls Try.prog 31 #[.agg #[.slice (some ⟨b0, o0, none⟩) X.length c0], .int .i64 i, .agg #[.int .i64 g, .bool u, .int .i64 ky, .int .i64 bb]] w (WithPost w (X.set i ⟨g, u, ky, bb⟩)) := by
  obtain ⟨i0, ji, ji0, ji1, ji2⟩ := info_parts info_sl
  have H1 := Lib.hid h1
  have hi' : (i : Int) < (X.length : Int) := by omega
  obtain ⟨Y, hY⟩ : ∃ Y, Y = X.set i ⟨g, u, ky, bb⟩ := ⟨_, rfl⟩
  have HY := Lib.hid hY
  rw [← hY]
  clear h1 hY
  go_enter Try.func31, Try.ntmps31
  go_wp2_with fail
  go_loopw [8] (fun k wr => ∃ n : Nat, n ≤ X.length ∧ k = .int .i64 n ∧ ChRel w wr (.slice (some ⟨b0, o0, none⟩) X.length c0) ⟨g, u, ky, bb⟩ Y n) (fun i _ => X.length - (intOf i).toNat)
  case atStart =>
    refine ⟨0, Nat.zero_le _, rfl, ?_, ?_, ?_, ?_, none, 0, ?_, World.ownsRow_nil _ _ _ _⟩
    · exact ((((Below.refl _ _).alloc (Nat.le_refl _) _).alloc (by first | omega | (simp; done) | (simp; omega)) _).alloc (by first | omega | (simp; done) | (simp; omega)) _).alloc (by first | omega | (simp; done) | (simp; omega)) _
    · rw [Below.heap_alloc _ _ _ (by first | omega | (simp; done) | (simp; omega)), Below.heap_alloc _ _ _ (by first | omega | (simp; done) | (simp; omega)), Below.heap_alloc _ _ _ (by first | omega | (simp; done) | (simp; omega))]; exact heap_at _ rfl
    · rw [Below.heap_alloc _ _ _ (by first | omega | (simp; done) | (simp; omega)), Below.heap_alloc _ _ _ (by first | omega | (simp; done) | (simp; omega))]; exact heap_at (w := World.alloc _ _) _ (by simp)
    · rw [Below.heap_alloc _ _ _ (by first | omega | (simp; done) | (simp; omega))]; exact heap_at (w := World.alloc _ _) _ (by simp)
    · exact heap_at (w := World.alloc _ _) _ (by simp)
  case round =>
    obtain ⟨n, hnX, rfl, hb, hh0, hh1, hh2, a, cap, hh3, hown⟩ := hrel
    have k0 := cell_of_one hh0
    have f3 := free_of_one hh3
    have c3 := cell_of_one hh3
    have l3 := lt_of_block hh3
    have HR := Lib.hid (And.intro hb (And.intro hh0 (And.intro hh1 (And.intro hh2 hh3))))
    have HO := Lib.hid hown
    rcases (show n < X.length ∨ X.length = n by omega) with hlt | heq
    · have hlt' : (n : Int) < (X.length : Int) := by omega
      rcases (show n = i ∨ n ≠ i by omega) with heq | hne
      · subst heq
        have e0 := blk_cell hh1 0
        have e1 := blk_cell hh1 1
        have e2 := blk_cell hh1 2
        have e3 := blk_cell hh1 3
        simp [Sl.cells] at e0 e1 e2 e3
        clear hb hh0 hh1 hh2 hh3 hown
        go_wp2_with (at_builtin; go_loud (refine wpList_append_own _ rfl _ _ 22 rfl (w.heap.size + 4) 28 i0 (.agg #[.int .i64 0, .bool false, .int .i64 0, .int .i64 0]) 4 32 Try.underlying22 ji ji0 ji1 ji2 rfl (by decide) _ n _ rfl (HO.out.alloc _) ⟨wr.heap.size, 0, none⟩ 1 1 (Sl.cells ⟨g, u, ky, bb⟩) rfl rfl (news_one (Sl.cells ⟨g, u, ky, bb⟩) 28) ?c1 ?c2 ?c3 ?c4 ?_))
        case c1 => intro u hu; simp [Sl.cells] at hu; rcases hu with rfl | rfl | rfl | rfl <;> rfl
        case c2 => unfold maxLen; omega
        case c3 => omega
        case c4 => simp; omega
        intro v' w1 hown' hgrow _
        obtain ⟨a', cap', rfl, _, _⟩ := owns_shape hown'
        have S := Lib.hid (ChRel_step (nw := ⟨g, u, ky, bb⟩) HR.out.1 HR.out.2.1 HR.out.2.2.1 HR.out.2.2.2.1 HR.out.2.2.2.2 HO.out ((Below.refl _ _).alloc (Nat.le_refl _) _) hgrow hown' (by rw [HY.out]; simpa using hlt) (by rw [HY.out]; simp [List.getD, hlt]))
        have B := grown_below (B := w.heap.size + 4) ((Below.refl _ _).alloc (Nat.le_refl _) _) (by omega) HO.out hgrow
        have d3 := cell_of_one (blk_below B HR.out.2.2.2.2 (by omega))
        have g3 := free_of_one (blk_below B HR.out.2.2.2.2 (by omega))
        clear B hown' hgrow
        go_wp2
        go_roundw
        case rel => exact ⟨n + 1, by omega, by go_num, S.out⟩
        case measure => simp [intOf]; omega
      · have hne' : ((n : Int) == (i : Int)) = false := by simp; omega
        obtain ⟨q, hq⟩ : ∃ q, q = X.getD n Sl.zero := ⟨_, rfl⟩
        have hqY : q = Y.getD n Sl.zero := by rw [hq, HY.out]; simp [List.getD, hlt, Ne.symm hne]
        have HQ := Lib.hid hqY
        have hold : ∀ j, j < 4 → wr.cell? ⟨b0, o0 + n * 4 + j, none⟩ = q.cells[j]? := fun j hj => by
          rw [hb.cell (p := ⟨b0, o0 + n * 4 + j, none⟩) hb0, hq]; exact H1.out n j hlt hj
        have a0 := hold 0 (by omega)
        have a1 := hold 1 (by omega)
        have a2 := hold 2 (by omega)
        have a3 := hold 3 (by omega)
        clear hold hq hqY
        obtain ⟨qg, qu, qk, qb⟩ := q
        simp only [Sl.cells, List.getElem?_cons_zero, List.getElem?_cons_succ, Nat.add_zero] at a0 a1 a2 a3
        have lb := cell_lt a0
        have nb : (Value.slice a n cap).ownBlock ≠ some b0 := by intro h; have := (hown.lt _ h).1; omega
        have n0 : (Value.slice a n cap).ownBlock ≠ some w.heap.size := by intro h; have := (hown.lt _ h).1; omega
        have n3 : (Value.slice a n cap).ownBlock ≠ some (w.heap.size + 1 + 1 + 1) := by intro h; have := (hown.lt _ h).1; omega
        have p0 : (0 : Int) ≤ (n : Int) := by omega
        have ff3 := free_alloc f3 l3
        clear hb hh0 hh1 hh2 hh3 hown
        go_wp2_with fail
        go_region_law ((refine step_append_lies _ (by rfl) _ _ 22 (by rfl) (w.heap.size + 4) 28 i0 (.agg #[.int .i64 0, .bool false, .int .i64 0, .int .i64 0]) 4 32 Try.underlying22 ji ji0 ji1 ji2 rfl (by decide) (.slice a n cap) n _ (by rfl) ((HO.out.alloc _).drew) ⟨wr.heap.size, 0, none⟩ 1 1 (Sl.cells ⟨qg, qu, qk, qb⟩) (by rfl) (by rfl) (World.news_of_block (cs := #[.int .i64 qg, .bool qu, .int .i64 qk, .int .i64 qb]) (t := 28) (fr := (0, 0)) (heap_alloc_new wr _)) (by simp [Sl.cells, Value.oneCell']) (by omega) (by unfold maxLen; omega) (by omega) (by simp; omega) (wr.heap.size + 1) (by simp) ?_; intro gg capg w1 hown1 hgrow hat hltg; have d3 := hgrow.cell_far ⟨w.heap.size + 1 + 1 + 1, 0, none⟩ (by simp; omega) (Ne.symm n3); have g3 := hgrow.frozen_far ⟨w.heap.size + 1 + 1 + 1, 0, none⟩ (by simp; omega) (Ne.symm n3); simp [ff3] at g3; simp at d3; have sz1 : w.heap.size + 1 + 1 + 1 < w1.heap.size := (by have := hgrow.size; simp at this; omega)))
        all_goals
          have S := Lib.hid (ChRel_step (nw := ⟨qg, qu, qk, qb⟩) HR.out.1 HR.out.2.1 HR.out.2.2.1 HR.out.2.2.2.1 HR.out.2.2.2.2 HO.out (((Below.refl _ _).alloc (Nat.le_refl _) _).drew) hgrow hown1 (by rw [HY.out]; simpa using hlt) HQ.out)
          clear hown1 hgrow d3 g3 hat
          go_wp2
          go_roundw
          case rel => exact ⟨n + 1, by omega, by go_num, S.out⟩
          case measure => simp [intOf]; omega
    · have d2 := blk_cell hh2 0
      have g2 := blk_free hh2 0
      simp at d2
      have hle : ¬ (n : Int) < (X.length : Int) := by omega
      have HE : Hid (RowNew (w.heap.size + 4) wr 4 (.slice a n cap) (Y.map Sl.cells)) := by
        have h := HO.out
        rw [List.take_of_length_le (by rw [HY.out]; simp; omega)] at h
        exact RowNew_of_owns h (by rw [HY.out]; simp [heq]) (lenc_Sl Y)
      clear hb hh0 hh1 hh2 hh3 hown
      go_wp2
      refine bodyPost_ret (v := .agg #[.slice a n cap]) ?_ rfl ⟨_, rfl, ?_, ?_⟩
      · simp [results, Try.results31, go_sem, *]
      · exact RowNew_mono (RowNew_setCell HE.out (by simp) _) (by omega)
      · exact HR.out.1.setCell (by first | omega | (simp; done) | (simp; omega)) _
theorem ref_changed_any (v : Value) (X : List Sl) (i : Nat) (g : Int) (u : Bool) (ky bb : Int) (w : World) (r : RowAt w 4 v (X.map Sl.cells)) (hn : X.length ≤ 40) (hi : i < X.length) :
    Calls Try.prog 31 #[.agg #[v], .int .i64 i, .agg #[.int .i64 g, .bool u, .int .i64 ky, .int .i64 bb]] w (WithPost w (X.set i ⟨g, u, ky, bb⟩)) := by
  obtain ⟨a, c, rfl, l, m, n, p⟩ := RowAt_fn Sl.zero r
  obtain ⟨b0, o, rfl, hb, q⟩ := p (by intro hX; rw [hX] at hi; simp at hi)
  exact ref_changed b0 o c X i g u ky bb w hb hn q hi
end Go.Proofs.Ytbemdijjdeimgaa

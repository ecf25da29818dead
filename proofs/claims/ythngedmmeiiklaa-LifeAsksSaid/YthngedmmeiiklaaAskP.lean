/- life.Ask: the roads on which it asks nothing of the lives. -/
import Derived.Test.YthngedmmeiiklaaAskT
import Derived.Test.YthngedmmeiiklaaIxcRq
import Derived.Deep.RegionLaw
namespace Go.Proofs.Ythngedmmeiiklaa
open Go.RowKit

theorem prog_join (B p : Nat) (v1 v2 : Value) (L : List Lf) (R : List Rq) (id kd bk wt an : Int) (L' : List Lf) (ans : Int) (w : World) (h : BkAt B w p v1 v2 L R) (h12 : L.length ≤ 12) (hA : JnAns L ⟨id, kd, bk, wt, an⟩ L' ans) :
    Calls Try.prog 29 #[.pointer (some ⟨p, 0, none⟩), .agg #[.int .i64 id, .int .i64 kd, .int .i64 bk, .int .i64 wt, .int .i64 an]] w (JnPost B w p v2 L' R ans) := by
  rcases hA with ⟨hr, rfl, rfl⟩ | ⟨hr, ⟨i, hi, he, hs⟩, rfl, rfl⟩ | ⟨hr, ⟨i, hi, he, hs, rfl⟩, rfl⟩ | ⟨hr, he, rfl, rfl⟩
  · exact prog_join_bad B p v1 v2 _ R id kd bk wt an w h hr
  · exact prog_join_twice B p v1 v2 _ R id kd bk wt an i w h h12 hr hi he hs
  · exact prog_join_set B p v1 v2 L R id kd bk wt an i w h h12 hr hi he hs
  · exact prog_join_ins B p v1 v2 L R id kd bk wt an w h h12 hr he
theorem prog_retire (B p : Nat) (v1 v2 : Value) (L : List Lf) (R : List Rq) (id kd bk wt an now drain : Int) (L' : List Lf) (ans : Int) (w : World) (h : BkAt B w p v1 v2 L R) (h12 : L.length ≤ 12) (hnd : (0 ≤ now ∧ now ≤ 1099511627776) ∧ (0 ≤ drain ∧ drain ≤ 500)) (hA : RtAns L ⟨id, kd, bk, wt, an⟩ now drain L' ans) :
    Calls Try.prog 30 #[.pointer (some ⟨p, 0, none⟩), .agg #[.int .i64 id, .int .i64 kd, .int .i64 bk, .int .i64 wt, .int .i64 an], .int .i64 now, .int .i64 drain] w (JnPost B w p v2 L' R ans) := by
  rcases hA with ⟨he, rfl, rfl⟩ | ⟨⟨i, hi, he, hs⟩, rfl, rfl⟩ | ⟨⟨i, hi, he, hs⟩, rfl, rfl⟩ | ⟨i, hi, he, hs, rfl, rfl⟩
  · exact prog_ret_none B p v1 v2 _ R id kd bk wt an now drain w h h12 he
  · exact prog_ret_no B p v1 v2 _ R id kd bk wt an now drain i 8 w h h12 hi he (Or.inl ⟨hs, rfl⟩)
  · exact prog_ret_no B p v1 v2 _ R id kd bk wt an now drain i 12 w h h12 hi he (Or.inr ⟨hs, rfl⟩)
  · exact prog_ret_yes B p v1 v2 L R id kd bk wt an now drain i w h h12 hnd hi he hs

def AkPost (w : World) (L' : List Lf) (R' : List Rq) (ans : Int) (nw : Bool) (code : Int) (e : Ending) (w' : World) : Prop := ∃ v1 v2, e = .returned (.tuple #[.agg #[v1, v2], .int .i64 ans, .bool nw, .int .i64 code]) ∧ RowAt w' 6 v1 (L'.map Lf.cells) ∧ RowAt w' 5 v2 (R'.map Rq.cells) ∧ Below w.heap.size w w'
def RqQ (x : Rq) (q : Bool) : Prop := (RqMay x ∧ q = true) ∨ (¬ RqMay x ∧ q = false)
/-- May a request be asked? -/
def AkMay (r : Rq) (now drain : Int) : Prop := RqMay r ∧ (0 ≤ now ∧ now ≤ 1099511627776) ∧ (0 ≤ drain ∧ drain ≤ 500)

set_option maxHeartbeats 8000000 in
set_option maxRecDepth 100000 in
theorem prog_Ask_state (vl vr : Value) (L : List Lf) (R : List Rq) (id kd bk wt an now drain : Int) (w : World) (hl : RowAt w 6 vl (L.map Lf.cells)) (hr : RowAt w 5 vr (R.map Rq.cells)) (h : ¬ BkMay L R) :
    Calls Try.prog 11 #[.agg #[vl, vr], .agg #[.int .i64 id, .int .i64 kd, .int .i64 bk, .int .i64 wt, .int .i64 an], .int .i64 now, .int .i64 drain] w (AkPost w [] [] 0 false 6) := by
  have HL := Lib.hid hl
  have HR := Lib.hid hr
  have H := Lib.hid h
  obtain ⟨a, c, rfl, _⟩ := RowAt_shape hl
  obtain ⟨a', c', rfl, _⟩ := RowAt_shape hr
  clear hl hr h
  go_enter Try.func11, Try.ntmps11
  go_wp2_with fail
  refine (prog_open_bad _ _ L R _ (RowAt_alloc (RowAt_alloc (RowAt_alloc HL.out _) _) _) (RowAt_alloc (RowAt_alloc (RowAt_alloc HR.out _) _) _) H.out).mono ?_
  rintro e w1 ⟨rfl, hb1⟩
  have B1 := (((((Below.refl w.heap.size w).alloc (Nat.le_refl _) (.cells #[.slice a L.length c, .slice a' R.length c'] 25)).alloc (by simp) (.cells #[.int .i64 id, .int .i64 kd, .int .i64 bk, .int .i64 wt, .int .i64 an] 31)).alloc (by first | omega | (simp; done) | (simp; omega)) (.cells #[.slice none 0 0, .slice none 0 0] 25))).trans (hb1.mono (by first | omega | (simp; done) | (simp; omega)))
  have hN := blk_below hb1 (heap_at (w := World.alloc (World.alloc w _) _) (k := w.heap.size + 1 + 1) (.cells #[.slice none 0 0, .slice none 0 0] 25) (by simp)) (by simp)
  have d0 := blk_cell hN 0
  have d1 := blk_cell hN 1
  have g0 := blk_free hN 0
  have g1 := blk_free hN 1
  have lN := lt_of_block hN
  simp at d0 d1
  clear hb1 hN
  go_wp2
  refine bodyPost_ret (v := .tuple #[.agg #[.slice none 0 0, .slice none 0 0], .int .i64 0, .bool false, .int .i64 6]) ?_ rfl ⟨_, _, rfl, RowAt_nil _ _, RowAt_nil _ _, (by repeat (first | (with_reducible exact Below.refl _ _) | (with_reducible assumption) | (with_reducible refine Below.drew ?_) | (with_reducible refine Below_drewN ?_) | (with_reducible refine Below.alloc ?_ (by first | omega | (simp; done) | (simp; omega)) _) | (with_reducible refine Below.setCell ?_ (by first | omega | (simp; done) | (simp; omega)) _) | (with_reducible refine Below.trans ?_ (Below.mono (by assumption) (by first | omega | (simp; done) | (simp; omega))))))⟩
  simp [results, Try.results11, go_sem, *]

set_option maxHeartbeats 8000000 in
set_option maxRecDepth 100000 in
theorem prog_Ask_range (vl vr : Value) (L : List Lf) (R : List Rq) (id kd bk wt an now drain : Int) (w : World) (hl : RowAt w 6 vl (L.map Lf.cells)) (hr : RowAt w 5 vr (R.map Rq.cells)) (h : BkMay L R) (hn : ¬ AkMay ⟨id, kd, bk, wt, an⟩ now drain) :
    Calls Try.prog 11 #[.agg #[vl, vr], .agg #[.int .i64 id, .int .i64 kd, .int .i64 bk, .int .i64 wt, .int .i64 an], .int .i64 now, .int .i64 drain] w (AkPost w [] [] 0 false 2) := by
  have HL := Lib.hid hl
  have HR := Lib.hid hr
  have H := Lib.hid h
  obtain ⟨a, c, rfl, _⟩ := RowAt_shape hl
  obtain ⟨a', c', rfl, _⟩ := RowAt_shape hr
  have hcs : ∃ q : Bool, RqQ ⟨id, kd, bk, wt, an⟩ q ∧ (q = false ∨ (q = true ∧ (now < 0 ∨ (0 ≤ now ∧ 1099511627776 < now) ∨ ((0 ≤ now ∧ now ≤ 1099511627776) ∧ drain < 0) ∨ ((0 ≤ now ∧ now ≤ 1099511627776) ∧ 0 ≤ drain ∧ 500 < drain)))) := by
    by_cases hq : RqMay ⟨id, kd, bk, wt, an⟩
    · refine ⟨true, Or.inl ⟨hq, rfl⟩, Or.inr ⟨rfl, ?_⟩⟩
      have h2 : ¬ ((0 ≤ now ∧ now ≤ 1099511627776) ∧ (0 ≤ drain ∧ drain ≤ 500)) := fun h => hn ⟨hq, h⟩
      omega
    · exact ⟨false, Or.inr ⟨hq, rfl⟩, Or.inl rfl⟩
  obtain ⟨q, hq, hc⟩ := hcs
  have HQ := Lib.hid hq
  clear hl hr h hn hq
  rcases hc with rfl | ⟨rfl, h0 | ⟨h0, h1⟩ | ⟨⟨h0, h1⟩, h2⟩ | ⟨⟨h0, h1⟩, h2, h3⟩⟩
  all_goals
    go_enter Try.func11, Try.ntmps11
    go_wp2_with fail; refine (prog_open_ok _ _ L R _ (RowAt_alloc (RowAt_alloc (RowAt_alloc HL.out _) _) _) (RowAt_alloc (RowAt_alloc (RowAt_alloc HR.out _) _) _) H.out).mono ?_; rintro e w1 ⟨p, v1, v2, rfl, K1, hb1⟩
    have B1 := Lib.hid ((((((Below.refl w.heap.size w).alloc (Nat.le_refl _) (.cells #[.slice a L.length c, .slice a' R.length c'] 25)).alloc (by simp) (.cells #[.int .i64 id, .int .i64 kd, .int .i64 bk, .int .i64 wt, .int .i64 an] 31)).alloc (by first | omega | (simp; done) | (simp; omega)) (.cells #[.slice none 0 0, .slice none 0 0] 25))).trans (hb1.mono (by first | omega | (simp; done) | (simp; omega))))
    have hN := Lib.hid (blk_below hb1 (heap_at (w := World.alloc (World.alloc w _) _) (k := w.heap.size + 1 + 1) (.cells #[.slice none 0 0, .slice none 0 0] 25) (by simp)) (by simp))
    have hR := blk_below hb1 ((Below.heap_alloc (w := World.alloc (World.alloc w _) _) (.cells #[.slice none 0 0, .slice none 0 0] 25) (w.heap.size + 1) (by simp)).trans (heap_at (w := World.alloc w _) (k := w.heap.size + 1) (.cells #[.int .i64 id, .int .i64 kd, .int .i64 bk, .int .i64 wt, .int .i64 an] 31) (by simp))) (by first | omega | (simp; done) | (simp; omega))
    have d0 := blk_cell hR 0
    have d1 := blk_cell hR 1
    have d2 := blk_cell hR 2
    have d3 := blk_cell hR 3
    have d4 := blk_cell hR 4
    have lN := lt_of_block hN.out
    simp at d0 d1 d2 d3 d4
    clear hb1 hR K1
    go_wp2_with fail
    refine (prog_request _ _ _ _ _ _ _ HQ.out).mono ?_
    rintro e w2 ⟨rfl, hb2⟩
    have B2 := B1.out.trans (hb2.mono B1.out.size)
    have hN2 := blk_below hb2 hN.out lN
    have n0 := blk_cell hN2 0
    have n1 := blk_cell hN2 1
    have g0 := blk_free hN2 0
    have g1 := blk_free hN2 1
    have lN2 := lt_of_block hN2
    simp at n0 n1
    clear hb2 hN2
    go_wp2
    all_goals first | (refine bodyPost_ret (v := .tuple #[.agg #[.slice none 0 0, .slice none 0 0], .int .i64 0, .bool false, .int .i64 2]) ?_ rfl ⟨_, _, rfl, RowAt_nil _ _, RowAt_nil _ _, (by repeat (first | (with_reducible exact Below.refl _ _) | (with_reducible assumption) | (with_reducible refine Below.drew ?_) | (with_reducible refine Below_drewN ?_) | (with_reducible refine Below.alloc ?_ (by first | omega | (simp; done) | (simp; omega)) _) | (with_reducible refine Below.setCell ?_ (by first | omega | (simp; done) | (simp; omega)) _) | (with_reducible refine Below.trans ?_ (Below.mono (by assumption) (by first | omega | (simp; done) | (simp; omega))))))⟩; simp [results, Try.results11, go_sem, *]; done) | (exfalso; first | omega | (simp at *; omega) | (simp at *; done))
end Go.Proofs.Ythngedmmeiiklaa

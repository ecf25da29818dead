/- usherref.Asked: what lies where; the roads on which nothing is asked. -/
import Derived.Test.YthngedmmeiiklaaAskR
import Derived.Test.YthngedmmeiiklaaAskP
import Derived.Test.YthngedmmeiiklaaAskQ
import Derived.Test.YthngedmmeiiklaaLifeWake
namespace Go.Proofs.Ythngedmmeiiklaa
open Go.RowKit

/-- What a request that may be asked does to a book that may be. -/
def AskGo (L : List Lf) (R : List Rq) (r : Rq) (now drain : Int) (L' : List Lf) (R' : List Rq) (ans : Int) (nw : Bool) : Prop :=
  (∃ q : Nat, q < R.length ∧ idxOf (rqIs r.id) R = q ∧ L' = L ∧ R' = R ∧ ans = (R.getD q Rq.zero).answer ∧ nw = false) ∨
  (idxOf (rqIs r.id) R = -1 ∧ ((R.length = 100 ∧ L' = L ∧ R' = R ∧ ans = 9 ∧ nw = false) ∨ (R.length ≠ 100 ∧ nw = true ∧
    ((r.kind = 1 ∧ JnAns L r L' ans ∧ R' = R ++ [⟨r.id, 1, r.backend, r.weight, ans⟩]) ∨
     (r.kind = 2 ∧ RtAns L ⟨r.id, 2, r.backend, 0, r.answer⟩ now drain L' ans ∧ R' = R ++ [⟨r.id, 2, r.backend, 0, ans⟩])))))
theorem AskGo_total (L : List Lf) (R : List Rq) (r : Rq) (now drain : Int) (h : AkMay r now drain) : ∃ L' R' ans nw, AskGo L R r now drain L' R' ans nw := by
  rcases idxOf_cases (rqIs r.id) R Rq.zero with ⟨hi, _⟩ | ⟨i, hi, he, _⟩
  · by_cases hf : R.length = 100
    · exact ⟨_, _, _, _, Or.inr ⟨hi, Or.inl ⟨hf, rfl, rfl, rfl, rfl⟩⟩⟩
    · obtain ⟨⟨_, hk⟩, _⟩ := h
      rcases (show r.kind = 1 ∨ r.kind = 2 by omega) with hk | hk
      · obtain ⟨L', ans, hA⟩ := JnAns_total L r
        exact ⟨_, _, _, _, Or.inr ⟨hi, Or.inr ⟨hf, rfl, Or.inl ⟨hk, hA, rfl⟩⟩⟩⟩
      · obtain ⟨L', ans, hA⟩ := RtAns_total L ⟨r.id, 2, r.backend, 0, r.answer⟩ now drain
        exact ⟨_, _, _, _, Or.inr ⟨hi, Or.inr ⟨hf, rfl, Or.inr ⟨hk, hA, rfl⟩⟩⟩⟩
  · exact ⟨_, _, _, _, Or.inl ⟨i, hi, he, rfl, rfl, rfl, rfl⟩⟩
theorem BkG.three {T : TypeId} {B : Nat} {w : World} {p g cap : Nat} {v2 : Value} {L : List Lf} {R : List Rq} {i : Nat} (h : BkG T B w p (.slice (some ⟨g, 0, none⟩) L.length cap) v2 L R) (hi : i < L.length) (b e f : Int) :
    BkG T B (((w.setCell ⟨g, i * 6 + 1, none⟩ (.int .i64 b)).setCell ⟨g, i * 6 + 4, none⟩ (.int .i64 e)).setCell ⟨g, i * 6 + 5, none⟩ (.int .i64 f)) p (.slice (some ⟨g, 0, none⟩) L.length cap) v2 (L.set i { L.getD i Lf.zero with state := b, until_ := e, request := f }) R := by
  obtain ⟨s, hs⟩ : ∃ s, s = L.getD i Lf.zero := ⟨_, rfl⟩
  rw [← hs]
  obtain ⟨x0, x1, x2, x3, x4, x5⟩ := s
  have gd : ∀ (M : List Lf) (y : Lf), M.length = L.length → (M.set i y).getD i Lf.zero = y := fun M y hM => by simp [List.getD, hM, hi]
  have k1 := BkG.field (j := 1) (v := .int .i64 b) (x := ⟨x0, b, x2, x3, x4, x5⟩) h hi (by omega) (by rw [← hs]; rfl)
  have k4 := BkG.field (j := 4) (v := .int .i64 e) (x := ⟨x0, b, x2, x3, e, x5⟩) (L := L.set i ⟨x0, b, x2, x3, x4, x5⟩) (by exact k1) (by rw [List.length_set]; exact hi) (by omega) (by rw [gd _ _ rfl]; rfl)
  rw [List.set_set] at k4
  have k5 := BkG.field (j := 5) (v := .int .i64 f) (x := ⟨x0, b, x2, x3, e, f⟩) (L := L.set i ⟨x0, b, x2, x3, e, x5⟩) (by exact k4) (by rw [List.length_set]; exact hi) (by omega) (by rw [gd _ _ rfl]; rfl)
  rw [List.set_set] at k5
  exact k5
/-- The blocks of Asked while the request is looked for. -/
structure AqW (w wr : World) (p : Nat) (vl vr v1 v2 : Value) (L : List Lf) (R : List Rq) (id kd bk wt an : Int) : Prop where
  bel : Below w.heap.size w wr
  hb : wr.heap[w.heap.size]? = some (.cells #[vl, vr] 25 (0, 0))
  hr : wr.heap[w.heap.size + 1]? = some (.cells #[.int .i64 id, .int .i64 kd, .int .i64 bk, .int .i64 wt, .int .i64 an] 31 (0, 0))
  hn : wr.heap[w.heap.size + 1 + 1]? = some (.cells #[.slice none 0 0, .slice none 0 0] 25 (0, 0))
  k : BkG 25 (w.heap.size + 3) wr p v1 v2 L R
theorem AqW.below {w wr wz : World} {p : Nat} {vl vr v1 v2 : Value} {L : List Lf} {R : List Rq} {id kd bk wt an : Int} (h : AqW w wr p vl vr v1 v2 L R id kd bk wt an) (hz : Below wr.heap.size wr wz) : AqW w wz p vl vr v1 v2 L R id kd bk wt an :=
  ⟨h.bel.trans (hz.mono h.bel.size), blk_below hz h.hb (lt_of_block h.hb), blk_below hz h.hr (lt_of_block h.hr), blk_below hz h.hn (lt_of_block h.hn), h.k.far hz h.k.lt⟩
/-- The request's box takes a value. -/
theorem AqW.box {w wr : World} {p j : Nat} {vl vr v1 v2 : Value} {L : List Lf} {R : List Rq} {id kd bk wt an kd' wt' an' : Int} {u : Value} (h : AqW w wr p vl vr v1 v2 L R id kd bk wt an)
    (hu : (#[.int .i64 id, .int .i64 kd, .int .i64 bk, .int .i64 wt, .int .i64 an] : Array Value).setIfInBounds j u = #[.int .i64 id, .int .i64 kd', .int .i64 bk, .int .i64 wt', .int .i64 an']) : AqW w (wr.setCell ⟨w.heap.size + 1, j, none⟩ u) p vl vr v1 v2 L R id kd' bk wt' an' := by
  have hp := h.k.hB
  refine ⟨h.bel.setCell (by simp) _, blk_set_ne h.hb (by omega), hu ▸ blk_set h.hr u, blk_set_ne h.hn (by omega), h.k.hB, blk_set_ne h.k.hh (by omega), ownsRow_setCell_below h.k.o1 (by simp) _, ownsRow_setCell_below h.k.o2 (by simp) _, h.k.l1, h.k.l2, h.k.dis⟩
/-- The blocks of Asked when the request is to be appended. -/
structure AqT (w wr : World) (p : Nat) (v1 v2 : Value) (L : List Lf) (R : List Rq) (id kd bk wt an : Int) : Prop where
  bel : Below w.heap.size w wr
  hr : wr.heap[w.heap.size + 1]? = some (.cells #[.int .i64 id, .int .i64 kd, .int .i64 bk, .int .i64 wt, .int .i64 an] 31 (0, 0))
  hn : wr.heap[w.heap.size + 1 + 1]? = some (.cells #[.slice none 0 0, .slice none 0 0] 25 (0, 0))
  hp : w.heap.size + 3 ≤ p
  hh : wr.heap[p]? = some (.cells #[v1, v2] 25 (0, 0))
  o1 : wr.ownsRow (w.heap.size + 3) 44 6 v1 L.length (L.map Lf.cells).flatten
  o2 : wr.ownsRow (w.heap.size + 3) 31 5 v2 R.length (R.map Rq.cells).flatten
theorem AqW.t {w wr : World} {p : Nat} {vl vr v1 v2 : Value} {L : List Lf} {R : List Rq} {id kd bk wt an : Int} (h : AqW w wr p vl vr v1 v2 L R id kd bk wt an) : AqT w wr p v1 v2 L R id kd bk wt an :=
  ⟨h.bel, h.hr, h.hn, h.k.hB, h.k.hh, h.k.o1, h.k.o2⟩

set_option maxHeartbeats 8000000 in
set_option maxRecDepth 100000 in
theorem ref_Asked_state (vl vr : Value) (L : List Lf) (R : List Rq) (id kd bk wt an now drain : Int) (w : World) (hl : RowAt w 6 vl (L.map Lf.cells)) (hr : RowAt w 5 vr (R.map Rq.cells)) (h : ¬ BkMay L R) :
    Calls Try.prog 12 #[.agg #[vl, vr], .agg #[.int .i64 id, .int .i64 kd, .int .i64 bk, .int .i64 wt, .int .i64 an], .int .i64 now, .int .i64 drain] w (AkPost w [] [] 0 false 6) := by
  have HL := Lib.hid hl
  have HR := Lib.hid hr
  have H : Hid (BkCode L R 6) := Or.inr ⟨h, rfl⟩
  obtain ⟨a, c, rfl, _⟩ := RowAt_shape hl
  obtain ⟨a', c', rfl, _⟩ := RowAt_shape hr
  clear hl hr h
  go_enter Try.func12, Try.ntmps12
  go_wp2_with fail
  refine (ref_BookFault _ _ L R 6 _ (RowAt_alloc (RowAt_alloc (RowAt_alloc HL.out _) _) _) (RowAt_alloc (RowAt_alloc (RowAt_alloc HR.out _) _) _) H.out).mono ?_
  rintro e w1 ⟨rfl, hb1⟩
  have B1 := (((((Below.refl w.heap.size w).alloc (Nat.le_refl _) (.cells #[.slice a L.length c, .slice a' R.length c'] 25)).alloc (by simp) (.cells #[.int .i64 id, .int .i64 kd, .int .i64 bk, .int .i64 wt, .int .i64 an] 31)).alloc (by first | omega | (simp; done) | (simp; omega)) (.cells #[.slice none 0 0, .slice none 0 0] 25))).trans (hb1.mono (by first | omega | (simp; done) | (simp; omega)))
  have hN := Lib.hid (blk_below hb1 (heap_at (w := World.alloc (World.alloc w _) _) (k := w.heap.size + 1 + 1) (.cells #[.slice none 0 0, .slice none 0 0] 25) (by simp)) (by simp)); have hR := Lib.hid (blk_below hb1 ((Below.heap_alloc (w := World.alloc (World.alloc w _) _) (.cells #[.slice none 0 0, .slice none 0 0] 25) (w.heap.size + 1) (by simp)).trans (heap_at (w := World.alloc w _) (k := w.heap.size + 1) (.cells #[.int .i64 id, .int .i64 kd, .int .i64 bk, .int .i64 wt, .int .i64 an] 31) (by simp))) (by first | omega | (simp; done) | (simp; omega)))
  have d0 := blk_cell hN.out 0
  have d1 := blk_cell hN.out 1
  have g0 := blk_free hN.out 0
  have g1 := blk_free hN.out 1
  have lN := lt_of_block hN.out
  simp at d0 d1
  clear hb1 hN hR
  go_wp2
  refine bodyPost_ret (v := .tuple #[.agg #[.slice none 0 0, .slice none 0 0], .int .i64 0, .bool false, .int .i64 6]) ?_ rfl ⟨_, _, rfl, RowAt_nil _ _, RowAt_nil _ _, (by repeat (first | (with_reducible exact Below.refl _ _) | (with_reducible assumption) | (with_reducible refine Below.drew ?_) | (with_reducible refine Below_drewN ?_) | (with_reducible refine Below.alloc ?_ (by first | omega | (simp; done) | (simp; omega)) _) | (with_reducible refine Below.setCell ?_ (by first | omega | (simp; done) | (simp; omega)) _) | (with_reducible refine Below.trans ?_ (Below.mono (by assumption) (by first | omega | (simp; done) | (simp; omega))))))⟩
  simp [results, Try.results12, go_sem, *]

set_option maxHeartbeats 8000000 in
set_option maxRecDepth 100000 in
theorem ref_Asked_range (vl vr : Value) (L : List Lf) (R : List Rq) (id kd bk wt an now drain : Int) (w : World) (hl : RowAt w 6 vl (L.map Lf.cells)) (hr : RowAt w 5 vr (R.map Rq.cells)) (h : BkMay L R) (hn : ¬ AkMay ⟨id, kd, bk, wt, an⟩ now drain) :
    Calls Try.prog 12 #[.agg #[vl, vr], .agg #[.int .i64 id, .int .i64 kd, .int .i64 bk, .int .i64 wt, .int .i64 an], .int .i64 now, .int .i64 drain] w (AkPost w [] [] 0 false 2) := by
  have HL := Lib.hid hl
  have HR := Lib.hid hr
  have H : Hid (BkCode L R 0) := Or.inl ⟨h, rfl⟩
  obtain ⟨a, c, rfl, _⟩ := RowAt_shape hl
  obtain ⟨a', c', rfl, _⟩ := RowAt_shape hr
  have hcs : ∃ q : Bool, RqQ ⟨id, kd, bk, wt, an⟩ q ∧ (q = false ∨ (q = true ∧ ((now < 0 ∨ 1099511627776 < now) ∨ ((0 ≤ now ∧ now ≤ 1099511627776) ∧ (drain < 0 ∨ 500 < drain))))) := by
    by_cases hq : RqMay ⟨id, kd, bk, wt, an⟩
    · refine ⟨true, Or.inl ⟨hq, rfl⟩, Or.inr ⟨rfl, ?_⟩⟩
      have h2 : ¬ ((0 ≤ now ∧ now ≤ 1099511627776) ∧ (0 ≤ drain ∧ drain ≤ 500)) := fun h => hn ⟨hq, h⟩
      omega
    · exact ⟨false, Or.inr ⟨hq, rfl⟩, Or.inl rfl⟩
  obtain ⟨q, hq, hc⟩ := hcs
  have HQ := Lib.hid hq
  clear hl hr h hn hq
  rcases hc with rfl | ⟨rfl, h0 | ⟨⟨h0, h1⟩, h2⟩⟩
  all_goals
    go_enter Try.func12, Try.ntmps12
    go_wp2_with fail
    refine (ref_BookFault _ _ L R 0 _ (RowAt_alloc (RowAt_alloc (RowAt_alloc HL.out _) _) _) (RowAt_alloc (RowAt_alloc (RowAt_alloc HR.out _) _) _) H.out).mono ?_
    rintro e w1 ⟨rfl, hb1⟩
    have B1 := Lib.hid ((((((Below.refl w.heap.size w).alloc (Nat.le_refl _) (.cells #[.slice a L.length c, .slice a' R.length c'] 25)).alloc (by simp) (.cells #[.int .i64 id, .int .i64 kd, .int .i64 bk, .int .i64 wt, .int .i64 an] 31)).alloc (by first | omega | (simp; done) | (simp; omega)) (.cells #[.slice none 0 0, .slice none 0 0] 25))).trans (hb1.mono (by first | omega | (simp; done) | (simp; omega))))
    have hN := Lib.hid (blk_below hb1 (heap_at (w := World.alloc (World.alloc w _) _) (k := w.heap.size + 1 + 1) (.cells #[.slice none 0 0, .slice none 0 0] 25) (by simp)) (by simp)); have hR := Lib.hid (blk_below hb1 ((Below.heap_alloc (w := World.alloc (World.alloc w _) _) (.cells #[.slice none 0 0, .slice none 0 0] 25) (w.heap.size + 1) (by simp)).trans (heap_at (w := World.alloc w _) (k := w.heap.size + 1) (.cells #[.int .i64 id, .int .i64 kd, .int .i64 bk, .int .i64 wt, .int .i64 an] 31) (by simp))) (by first | omega | (simp; done) | (simp; omega)))
    have d0 := blk_cell hR.out 0
    have d1 := blk_cell hR.out 1
    have d2 := blk_cell hR.out 2
    have d3 := blk_cell hR.out 3
    have d4 := blk_cell hR.out 4
    have lN := lt_of_block hN.out
    simp at d0 d1 d2 d3 d4
    clear hb1 hR
    go_wp2_with fail
    refine (ref_RequestMay _ _ _ _ _ _ _ HQ.out).mono ?_
    rintro e w2 ⟨rfl, hb2⟩
    have B2 := B1.out.trans (hb2.mono B1.out.size)
    have hN2 := blk_below hb2 hN.out lN
    have n0 := blk_cell hN2 0
    have n1 := blk_cell hN2 1
    have g0 := blk_free hN2 0
    have g1 := blk_free hN2 1
    have lN2 := lt_of_block hN2
    simp at n0 n1
    clear hb2 hN2
    go_wp2_with (go_at_call 31; first | (refine (In_yes _ _ _ _ (by omega) (by omega)).mono ?_; rintro e w' ⟨rfl, rfl⟩) | (refine (In_no _ _ _ _ (by omega)).mono ?_; rintro e w' ⟨rfl, rfl⟩))
    all_goals first | (refine bodyPost_ret (v := .tuple #[.agg #[.slice none 0 0, .slice none 0 0], .int .i64 0, .bool false, .int .i64 2]) ?_ rfl ⟨_, _, rfl, RowAt_nil _ _, RowAt_nil _ _, (by repeat (first | (with_reducible exact Below.refl _ _) | (with_reducible assumption) | (with_reducible refine Below.drew ?_) | (with_reducible refine Below_drewN ?_) | (with_reducible refine Below.alloc ?_ (by first | omega | (simp; done) | (simp; omega)) _) | (with_reducible refine Below.setCell ?_ (by first | omega | (simp; done) | (simp; omega)) _) | (with_reducible refine Below.trans ?_ (Below.mono (by assumption) (by first | omega | (simp; done) | (simp; omega))))))⟩; simp [results, Try.results12, go_sem, *]; done) | (exfalso; first | omega | (simp at *; omega) | (simp at *; done))
end Go.Proofs.Ythngedmmeiiklaa

/- usherref.joined. -/
import Derived.Test.YthngedmmeiiklaaAskS
import Derived.Deep.RegionHeld3
import Derived.Deep.RegionLaw
import Derived.Deep.AppendLies
import Derived.BigQuiet
namespace Go.Proofs.Ythngedmmeiiklaa
open Go.RowKit

theorem jnS_len {L : List Lf} {x : Lf} {p E k : Nat} : (jnS L x p E k).length ≤ k + 1 := by
  unfold jnS
  split
  · simp; omega
  · simp; omega
def JnB (w wr : World) (vl vr : Value) (x : Lf) : Prop := Below w.heap.size w wr ∧ wr.heap[w.heap.size]? = some (.cells #[vl, vr] 25 (0, 0)) ∧ wr.heap[w.heap.size + 1]? = some (.cells x.cells.toArray 44 (0, 0)) ∧ wr.heap[w.heap.size + 1 + 1]? = some (.cells #[.slice none 0 0, .slice none 0 0] 25 (0, 0))
def JnRel (w wr : World) (vl vr : Value) (x : Lf) (S : List Lf) : Prop := JnB w wr vl vr x ∧ ∃ (a : Option Addr) (cap : Nat), wr.heap[w.heap.size + 1 + 1 + 1]? = some (.cells #[.slice a S.length cap, vr] 25 (0, 0)) ∧ wr.ownsRow (w.heap.size + 4) 44 6 (.slice a S.length cap) S.length (S.map Lf.cells).flatten
theorem JnRel_step {w wr wx w1 : World} {vl vr : Value} {x : Lf} {S : List Lf} {a a' : Option Addr} {cap cap' : Nat} {nw : Lf} (h : JnB w wr vl vr x)
    (hh3 : wr.heap[w.heap.size + 1 + 1 + 1]? = some (.cells #[.slice a S.length cap, vr] 25 (0, 0))) (hown0 : wr.ownsRow (w.heap.size + 4) 44 6 (.slice a S.length cap) S.length (S.map Lf.cells).flatten)
    (hx : Below wr.heap.size wr wx) (hgrow : wx.grownBy w1 (Value.slice a S.length cap).ownBlock) (hown : w1.ownsRow (w.heap.size + 4) 44 6 (.slice a' (S.length + 1) cap') (S.length + 1) ((S.map Lf.cells).flatten ++ nw.cells)) :
    JnRel w (w1.setCell ⟨w.heap.size + 1 + 1 + 1, 0, none⟩ (.slice a' (S.length + 1) cap')) vl vr x (S ++ [nw]) := by
  obtain ⟨hb, hh0, hh1, hh2⟩ := h
  have hl := lt_of_block hh3
  have B := grown_below (B := w.heap.size + 4) hx (by omega) hown0 hgrow
  have e : (S ++ [nw]).length = S.length + 1 := by simp
  refine ⟨⟨(hb.trans (B.mono (by omega))).setCell (by simp; omega) _, blk_set_ne (blk_below B hh0 (by omega)) (by omega), blk_set_ne (blk_below B hh1 (by omega)) (by omega), blk_set_ne (blk_below B hh2 (by omega)) (by omega)⟩, a', cap', ?_, ?_⟩
  · rw [e]; exact two_setCell0 (blk_below B hh3 (by omega))
  · rw [e]
    refine ownsRow_setCell_below ?_ (by simp) _
    simpa using hown
theorem JnRel_drewN {w wr : World} {vl vr : Value} {x : Lf} {S : List Lf} (m : Nat) (h : JnRel w wr vl vr x S) : JnRel w (wr.drewN m) vl vr x S := by
  obtain ⟨⟨hb, hh0, hh1, hh2⟩, a, cap, hh3, hown⟩ := h
  exact ⟨⟨Below_drewN hb, hh0, hh1, hh2⟩, a, cap, hh3, own_keep hown (Below_drewN (Below.refl _ _))⟩
def JdPost (w : World) (vr : Value) (S : List Lf) (e : Ending) (w' : World) : Prop := ∃ v1, e = .returned (.agg #[v1, vr]) ∧ w'.ownsRow w.heap.size 44 6 v1 S.length (S.map Lf.cells).flatten ∧ Below w.heap.size w w'

set_option maxHeartbeats 16000000 in
set_option maxRecDepth 100000 in
theorem ref_joined (vl vr : Value) (L : List Lf) (p E : Nat) (x0 x1 x2 x3 x4 x5 : Int) (T : List Lf) (w : World) (hl : RowAt w 6 vl (L.map Lf.cells)) (hr : ∃ a n c, vr = .slice a n c) (h12 : L.length ≤ 12) (hE1 : E ≤ 1)
    (h1 : ∀ j, j < p → j < L.length → (L.getD j Lf.zero).backend < x0) (h2 : ∀ j, p < j → j < L.length → x0 < (L.getD j Lf.zero).backend)
    (h3 : p < L.length → (E = 1 ∧ (L.getD p Lf.zero).backend = x0) ∨ (E = 0 ∧ x0 < (L.getD p Lf.zero).backend))
    (hp : p ≤ L.length) (hT : T = if p < L.length then jnS L ⟨x0, x1, x2, x3, x4, x5⟩ p E L.length else jnS L ⟨x0, x1, x2, x3, x4, x5⟩ p E L.length ++ [⟨x0, x1, x2, x3, x4, x5⟩]) :
    Calls Try.prog 33 #[.agg #[vl, vr], .agg #[.int .i64 x0, .int .i64 x1, .int .i64 x2, .int .i64 x3, .int .i64 x4, .int .i64 x5]] w (JdPost w vr T) := by
  obtain ⟨i0, ji, ji0, ji1, ji2⟩ := info_parts info_lf
  obtain ⟨ar, nr, cr, rfl⟩ := hr
  obtain ⟨vr, hvr⟩ : ∃ vr, vr = Value.slice ar nr cr := ⟨_, rfl⟩
  obtain ⟨a0, c0, rfl, l, m, n, p'⟩ := RowAt_fn Lf.zero hl
  have P := Lib.hid p'
  have HT := Lib.hid hT
  have H1 := Lib.hid h1
  have H2 := Lib.hid h2
  have H3' := Lib.hid h3
  clear hl p' l m n h1 h2 h3 hT hvr vr
  go_enter Try.func33, Try.ntmps33
  go_wp2_with fail
  go_loopw [6, 7] (fun d i wr => ∃ n : Nat, n ≤ L.length ∧ i = .int .i64 n ∧ d = .bool (decide (p < n)) ∧ JnRel w wr (.slice a0 L.length c0) (.slice ar nr cr) ⟨x0, x1, x2, x3, x4, x5⟩ (jnS L ⟨x0, x1, x2, x3, x4, x5⟩ p E n)) (fun _ i _ => L.length - (intOf i).toNat)
  case atStart =>
    refine ⟨0, Nat.zero_le _, rfl, rfl, ⟨?_, ?_, ?_, ?_⟩, none, 0, ?_, World.ownsRow_nil _ _ _ _⟩
    · exact ((((Below.refl _ _).alloc (Nat.le_refl _) _).alloc (by first | omega | (simp; done) | (simp; omega)) _).alloc (by first | omega | (simp; done) | (simp; omega)) _).alloc (by first | omega | (simp; done) | (simp; omega)) _
    · rw [Below.heap_alloc _ _ _ (by first | omega | (simp; done) | (simp; omega)), Below.heap_alloc _ _ _ (by first | omega | (simp; done) | (simp; omega)), Below.heap_alloc _ _ _ (by first | omega | (simp; done) | (simp; omega))]; exact heap_at _ rfl
    · rw [Below.heap_alloc _ _ _ (by first | omega | (simp; done) | (simp; omega)), Below.heap_alloc _ _ _ (by first | omega | (simp; done) | (simp; omega))]; exact heap_at (w := World.alloc _ _) _ (by simp)
    · rw [Below.heap_alloc _ _ _ (by first | omega | (simp; done) | (simp; omega))]; exact heap_at (w := World.alloc _ _) _ (by simp)
    · exact heap_at (w := World.alloc _ _) _ (by simp)
  case round =>
    obtain ⟨n, hnX, rfl, rfl, hJ⟩ := hrel
    have hSl : (jnS L ⟨x0, x1, x2, x3, x4, x5⟩ p E n).length ≤ n + 1 := jnS_len
    rcases (show n < L.length ∨ L.length = n by omega) with hlt | heq
    · have hlt' : (n : Int) < (L.length : Int) := by omega
      obtain ⟨b0, o0, rfl, hb0, q⟩ := P.out (by intro h; rw [h] at hlt; simp at hlt)
      have Q := Lib.hid q
      obtain ⟨y, hx⟩ : ∃ x, x = L.getD n Lf.zero := ⟨_, rfl⟩
      have HX := Lib.hid hx
      have p0 : (0 : Int) ≤ (n : Int) := by omega
      obtain ⟨S, hS⟩ : ∃ S, S = jnS L ⟨x0, x1, x2, x3, x4, x5⟩ p E n := ⟨_, rfl⟩
      rw [← hS] at hJ hSl
      have HS := Lib.hid hS
      have JR := Lib.hid hJ
      obtain ⟨y0, y1, y2, y3, y4, y5⟩ := y
      clear hx hS hJ q
      rcases (show n < p ∨ n = p ∨ p < n by omega) with hnp | hnp | hnp
      · skip
        have hy : y0 < x0 := by have := H1.out n hnp hlt; rw [← HX.out] at this; exact this
        have HEND : Hid (∀ W, JnRel w W (.slice (some ⟨b0, o0, none⟩) L.length c0) (.slice ar nr cr) ⟨x0, x1, x2, x3, x4, x5⟩ (S ++ [⟨y0, y1, y2, y3, y4, y5⟩]) → JnRel w W (.slice (some ⟨b0, o0, none⟩) L.length c0) (.slice ar nr cr) ⟨x0, x1, x2, x3, x4, x5⟩ (jnS L ⟨x0, x1, x2, x3, x4, x5⟩ p E (n + 1))) := fun W h => by rw [jnS_lt hnp hlt, ← HS.out, ← HX.out]; exact h
        have hd : decide (p < n) = false := decide_eq_false (by omega)
        have hd' : decide (p < n + 1) = false := decide_eq_false (by omega)
        rw [hd]
        have hg1 : ¬ x0 ≤ y0 := by omega
        have hg2 : decide (x0 ≤ y0) = false := decide_eq_false hg1
        have hg3 : decide (y0 ≥ x0) = false := decide_eq_false hg1
        have hg4 : (y0 != x0) = true := by rw [bne_iff_ne]; omega
        obtain ⟨⟨hb, hh0, hh1, hh2⟩, a, cap, hh3, hown⟩ := JR.out
        have HB := Lib.hid (show JnB w wr (.slice (some ⟨b0, o0, none⟩) L.length c0) (.slice ar nr cr) ⟨x0, x1, x2, x3, x4, x5⟩ from ⟨hb, hh0, hh1, hh2⟩)
        have H3 := Lib.hid hh3
        have HO := Lib.hid hown
        have k0 := blk_cell hh0 0
        have e0 := blk_cell hh1 0
        have e1 := blk_cell hh1 1
        have e2 := blk_cell hh1 2
        have e3 := blk_cell hh1 3
        have e4 := blk_cell hh1 4
        have e5 := blk_cell hh1 5
        have f3 := blk_free hh3 0
        have c3 := blk_cell hh3 0
        have l3 := lt_of_block hh3
        simp [Lf.cells] at k0 e0 e1 e2 e3 e4 e5 c3
        have hold : ∀ j, j < 6 → wr.cell? ⟨b0, o0 + n * 6 + j, none⟩ = (Lf.cells ⟨y0, y1, y2, y3, y4, y5⟩)[j]? := fun j hj => by
          rw [hb.cell (p := ⟨b0, o0 + n * 6 + j, none⟩) hb0, HX.out]; exact Q.out n j hlt hj
        have a0 := hold 0 (by omega)
        have a1 := hold 1 (by omega)
        have a2 := hold 2 (by omega)
        have a3 := hold 3 (by omega)
        have a4 := hold 4 (by omega)
        have a5 := hold 5 (by omega)
        simp only [Lf.cells, List.getElem?_cons_zero, List.getElem?_cons_succ, Nat.add_zero] at a0 a1 a2 a3 a4 a5
        have lb := cell_lt a0
        have nb : (Value.slice a S.length cap).ownBlock ≠ some b0 := by intro h; have := (hown.lt _ h).1; omega
        have n0 : (Value.slice a S.length cap).ownBlock ≠ some w.heap.size := by intro h; have := (hown.lt _ h).1; omega
        have n3 : (Value.slice a S.length cap).ownBlock ≠ some (w.heap.size + 1 + 1 + 1) := by intro h; have := (hown.lt _ h).1; omega
        have ff3 := free_alloc f3 l3
        clear hold hb hh0 hh1 hh2 hh3 hown
        go_wp2_with fail
        go_quiet (fail)
        have JQ := Lib.hid (JnRel_drewN nq JR.out)
        clear HB H3 HO k0 e0 e1 e2 e3 e4 e5 f3 c3 l3 a0 a1 a2 a3 a4 a5 lb nb n0 n3 ff3
        clear JR
        generalize wr.drewN nq = wy at JQ ⊢
        have JR := JQ
        clear JQ
        obtain ⟨⟨hb, hh0, hh1, hh2⟩, a, cap, hh3, hown⟩ := JR.out
        have HB := Lib.hid (show JnB w wy (.slice (some ⟨b0, o0, none⟩) L.length c0) (.slice ar nr cr) ⟨x0, x1, x2, x3, x4, x5⟩ from ⟨hb, hh0, hh1, hh2⟩)
        have H3 := Lib.hid hh3
        have HO := Lib.hid hown
        have k0 := blk_cell hh0 0
        have e0 := blk_cell hh1 0
        have e1 := blk_cell hh1 1
        have e2 := blk_cell hh1 2
        have e3 := blk_cell hh1 3
        have e4 := blk_cell hh1 4
        have e5 := blk_cell hh1 5
        have f3 := blk_free hh3 0
        have c3 := blk_cell hh3 0
        have l3 := lt_of_block hh3
        simp [Lf.cells] at k0 e0 e1 e2 e3 e4 e5 c3
        have hold : ∀ j, j < 6 → wy.cell? ⟨b0, o0 + n * 6 + j, none⟩ = (Lf.cells ⟨y0, y1, y2, y3, y4, y5⟩)[j]? := fun j hj => by
          rw [hb.cell (p := ⟨b0, o0 + n * 6 + j, none⟩) hb0, HX.out]; exact Q.out n j hlt hj
        have a0 := hold 0 (by omega)
        have a1 := hold 1 (by omega)
        have a2 := hold 2 (by omega)
        have a3 := hold 3 (by omega)
        have a4 := hold 4 (by omega)
        have a5 := hold 5 (by omega)
        simp only [Lf.cells, List.getElem?_cons_zero, List.getElem?_cons_succ, Nat.add_zero] at a0 a1 a2 a3 a4 a5
        have lb := cell_lt a0
        have nb : (Value.slice a S.length cap).ownBlock ≠ some b0 := by intro h; have := (hown.lt _ h).1; omega
        have n0 : (Value.slice a S.length cap).ownBlock ≠ some w.heap.size := by intro h; have := (hown.lt _ h).1; omega
        have n3 : (Value.slice a S.length cap).ownBlock ≠ some (w.heap.size + 1 + 1 + 1) := by intro h; have := (hown.lt _ h).1; omega
        have ff3 := free_alloc f3 l3
        clear hold hb hh0 hh1 hh2 hh3 hown
        go_wp2_with fail
        go_quiet (fail)
        have JQ := Lib.hid (JnRel_drewN nq JR.out)
        clear HB H3 HO k0 e0 e1 e2 e3 e4 e5 f3 c3 l3 a0 a1 a2 a3 a4 a5 lb nb n0 n3 ff3
        clear JR
        generalize wy.drewN nq = wz at JQ ⊢
        have JR := JQ
        clear JQ
        obtain ⟨⟨hb, hh0, hh1, hh2⟩, a, cap, hh3, hown⟩ := JR.out
        have HB := Lib.hid (show JnB w wz (.slice (some ⟨b0, o0, none⟩) L.length c0) (.slice ar nr cr) ⟨x0, x1, x2, x3, x4, x5⟩ from ⟨hb, hh0, hh1, hh2⟩)
        have H3 := Lib.hid hh3
        have HO := Lib.hid hown
        have k0 := blk_cell hh0 0
        have e0 := blk_cell hh1 0
        have e1 := blk_cell hh1 1
        have e2 := blk_cell hh1 2
        have e3 := blk_cell hh1 3
        have e4 := blk_cell hh1 4
        have e5 := blk_cell hh1 5
        have f3 := blk_free hh3 0
        have c3 := blk_cell hh3 0
        have l3 := lt_of_block hh3
        simp [Lf.cells] at k0 e0 e1 e2 e3 e4 e5 c3
        have hold : ∀ j, j < 6 → wz.cell? ⟨b0, o0 + n * 6 + j, none⟩ = (Lf.cells ⟨y0, y1, y2, y3, y4, y5⟩)[j]? := fun j hj => by
          rw [hb.cell (p := ⟨b0, o0 + n * 6 + j, none⟩) hb0, HX.out]; exact Q.out n j hlt hj
        have a0 := hold 0 (by omega)
        have a1 := hold 1 (by omega)
        have a2 := hold 2 (by omega)
        have a3 := hold 3 (by omega)
        have a4 := hold 4 (by omega)
        have a5 := hold 5 (by omega)
        simp only [Lf.cells, List.getElem?_cons_zero, List.getElem?_cons_succ, Nat.add_zero] at a0 a1 a2 a3 a4 a5
        have lb := cell_lt a0
        have nb : (Value.slice a S.length cap).ownBlock ≠ some b0 := by intro h; have := (hown.lt _ h).1; omega
        have n0 : (Value.slice a S.length cap).ownBlock ≠ some w.heap.size := by intro h; have := (hown.lt _ h).1; omega
        have n3 : (Value.slice a S.length cap).ownBlock ≠ some (w.heap.size + 1 + 1 + 1) := by intro h; have := (hown.lt _ h).1; omega
        have ff3 := free_alloc f3 l3
        clear hold hb hh0 hh1 hh2 hh3 hown
        go_wp2_with fail
        go_region_law ((refine step_append_lies _ (by rfl) _ _ 22 (by rfl) (w.heap.size + 4) 44 i0 (.agg #[.int .i64 0, .int .i64 0, .int .i64 0, .int .i64 0, .int .i64 0, .int .i64 0]) 6 48 Try.underlying22 ji ji0 ji1 ji2 rfl (by decide) (.slice a S.length cap) S.length _ (by rfl) ((HO.out.alloc _).drew) ⟨wz.heap.size, 0, none⟩ 1 1 (Lf.cells ⟨y0, y1, y2, y3, y4, y5⟩) (by rfl) (by rfl) (World.news_of_block (cs := #[.int .i64 y0, .int .i64 y1, .int .i64 y2, .int .i64 y3, .int .i64 y4, .int .i64 y5]) (t := 44) (fr := (0, 0)) (heap_alloc_new wz _)) (by simp [Lf.cells, Value.oneCell']) (by omega) (by unfold maxLen; omega) (by omega) (by simp; omega) (wz.heap.size + 1) (by simp) ?_; intro gg capg w1 hown1 hgrow hat hltg; have d3 := hgrow.cell_far ⟨w.heap.size + 1 + 1 + 1, 0, none⟩ (by simp; omega) (Ne.symm n3); have g3 := hgrow.frozen_far ⟨w.heap.size + 1 + 1 + 1, 0, none⟩ (by simp; omega) (Ne.symm n3); simp [ff3] at g3; simp at d3; have sz1 : w.heap.size + 1 + 1 + 1 < w1.heap.size := (by have := hgrow.size; simp at this; omega)))
        all_goals
          have JS := Lib.hid (JnRel_step (nw := ⟨y0, y1, y2, y3, y4, y5⟩) HB.out H3.out HO.out (((Below.refl _ _).alloc (Nat.le_refl _) _).drew) hgrow hown1)
          clear hown1 hgrow d3 g3 hat
          go_wp2
          go_roundw
          case rel => exact ⟨n + 1, by omega, by go_num, by rw [hd'], HEND.out _ JS.out⟩
          case measure => simp [intOf]; omega
      · have HNP := Lib.hid hnp
        have hy' := H3'.out (by omega)
        rw [← hnp, ← HX.out] at hy'
        rcases hy' with ⟨hE, hy⟩ | ⟨hE, hy⟩
        all_goals simp only at hy
        · skip
          have hg4 : (y0 != x0) = false := by simpa using hy
          have HEND : Hid (∀ W, JnRel w W (.slice (some ⟨b0, o0, none⟩) L.length c0) (.slice ar nr cr) ⟨x0, x1, x2, x3, x4, x5⟩ (S ++ [⟨x0, x1, x2, x3, x4, x5⟩]) → JnRel w W (.slice (some ⟨b0, o0, none⟩) L.length c0) (.slice ar nr cr) ⟨x0, x1, x2, x3, x4, x5⟩ (jnS L ⟨x0, x1, x2, x3, x4, x5⟩ p E (n + 1))) := fun W h => by
            have e : jnS L ⟨x0, x1, x2, x3, x4, x5⟩ p E (n + 1) = S ++ [⟨x0, x1, x2, x3, x4, x5⟩] := by rw [HS.out, HNP.out, hE, jnS_one (by have := HNP.out; omega)]
            rw [e]; exact h
          have hd : decide (p < n) = false := decide_eq_false (by omega)
          have hd' : decide (p < n + 1) = true := decide_eq_true (by omega)
          rw [hd]
          have hg1 : x0 ≤ y0 := by omega
          have hg2 : decide (x0 ≤ y0) = true := decide_eq_true hg1
          have hg3 : decide (y0 ≥ x0) = true := decide_eq_true hg1
          obtain ⟨⟨hb, hh0, hh1, hh2⟩, a, cap, hh3, hown⟩ := JR.out
          have HB := Lib.hid (show JnB w wr (.slice (some ⟨b0, o0, none⟩) L.length c0) (.slice ar nr cr) ⟨x0, x1, x2, x3, x4, x5⟩ from ⟨hb, hh0, hh1, hh2⟩)
          have H3 := Lib.hid hh3
          have HO := Lib.hid hown
          have k0 := blk_cell hh0 0
          have e0 := blk_cell hh1 0
          have e1 := blk_cell hh1 1
          have e2 := blk_cell hh1 2
          have e3 := blk_cell hh1 3
          have e4 := blk_cell hh1 4
          have e5 := blk_cell hh1 5
          have f3 := blk_free hh3 0
          have c3 := blk_cell hh3 0
          have l3 := lt_of_block hh3
          simp [Lf.cells] at k0 e0 e1 e2 e3 e4 e5 c3
          have hold : ∀ j, j < 6 → wr.cell? ⟨b0, o0 + n * 6 + j, none⟩ = (Lf.cells ⟨y0, y1, y2, y3, y4, y5⟩)[j]? := fun j hj => by
            rw [hb.cell (p := ⟨b0, o0 + n * 6 + j, none⟩) hb0, HX.out]; exact Q.out n j hlt hj
          have a0 := hold 0 (by omega)
          have a1 := hold 1 (by omega)
          have a2 := hold 2 (by omega)
          have a3 := hold 3 (by omega)
          have a4 := hold 4 (by omega)
          have a5 := hold 5 (by omega)
          simp only [Lf.cells, List.getElem?_cons_zero, List.getElem?_cons_succ, Nat.add_zero] at a0 a1 a2 a3 a4 a5
          have lb := cell_lt a0
          have nb : (Value.slice a S.length cap).ownBlock ≠ some b0 := by intro h; have := (hown.lt _ h).1; omega
          have n0 : (Value.slice a S.length cap).ownBlock ≠ some w.heap.size := by intro h; have := (hown.lt _ h).1; omega
          have n3 : (Value.slice a S.length cap).ownBlock ≠ some (w.heap.size + 1 + 1 + 1) := by intro h; have := (hown.lt _ h).1; omega
          have ff3 := free_alloc f3 l3
          clear hold hb hh0 hh1 hh2 hh3 hown
          have HY := Lib.hid hy
          clear hy hE hnp
          go_wp2_with fail
          go_quiet (fail)
          have JQ := Lib.hid (JnRel_drewN nq JR.out)
          clear HB H3 HO k0 e0 e1 e2 e3 e4 e5 f3 c3 l3 a0 a1 a2 a3 a4 a5 lb nb n0 n3 ff3
          clear JR
          generalize wr.drewN nq = wy at JQ ⊢
          have JR := JQ
          clear JQ
          obtain ⟨⟨hb, hh0, hh1, hh2⟩, a, cap, hh3, hown⟩ := JR.out
          have HB := Lib.hid (show JnB w wy (.slice (some ⟨b0, o0, none⟩) L.length c0) (.slice ar nr cr) ⟨x0, x1, x2, x3, x4, x5⟩ from ⟨hb, hh0, hh1, hh2⟩)
          have H3 := Lib.hid hh3
          have HO := Lib.hid hown
          have k0 := blk_cell hh0 0
          have e0 := blk_cell hh1 0
          have e1 := blk_cell hh1 1
          have e2 := blk_cell hh1 2
          have e3 := blk_cell hh1 3
          have e4 := blk_cell hh1 4
          have e5 := blk_cell hh1 5
          have f3 := blk_free hh3 0
          have c3 := blk_cell hh3 0
          have l3 := lt_of_block hh3
          simp [Lf.cells] at k0 e0 e1 e2 e3 e4 e5 c3
          have hold : ∀ j, j < 6 → wy.cell? ⟨b0, o0 + n * 6 + j, none⟩ = (Lf.cells ⟨y0, y1, y2, y3, y4, y5⟩)[j]? := fun j hj => by
            rw [hb.cell (p := ⟨b0, o0 + n * 6 + j, none⟩) hb0, HX.out]; exact Q.out n j hlt hj
          have a0 := hold 0 (by omega)
          have a1 := hold 1 (by omega)
          have a2 := hold 2 (by omega)
          have a3 := hold 3 (by omega)
          have a4 := hold 4 (by omega)
          have a5 := hold 5 (by omega)
          simp only [Lf.cells, List.getElem?_cons_zero, List.getElem?_cons_succ, Nat.add_zero] at a0 a1 a2 a3 a4 a5
          have lb := cell_lt a0
          have nb : (Value.slice a S.length cap).ownBlock ≠ some b0 := by intro h; have := (hown.lt _ h).1; omega
          have n0 : (Value.slice a S.length cap).ownBlock ≠ some w.heap.size := by intro h; have := (hown.lt _ h).1; omega
          have n3 : (Value.slice a S.length cap).ownBlock ≠ some (w.heap.size + 1 + 1 + 1) := by intro h; have := (hown.lt _ h).1; omega
          have ff3 := free_alloc f3 l3
          clear hold hb hh0 hh1 hh2 hh3 hown
          go_wp2_with (at_builtin; go_loud (refine wpList_append_own _ rfl _ _ 22 rfl (w.heap.size + 4) 44 i0 (.agg #[.int .i64 0, .int .i64 0, .int .i64 0, .int .i64 0, .int .i64 0, .int .i64 0]) 6 48 Try.underlying22 ji ji0 ji1 ji2 rfl (by decide) _ S.length _ rfl (HO.out.alloc _) ⟨wy.heap.size, 0, none⟩ 1 1 (Lf.cells ⟨x0, x1, x2, x3, x4, x5⟩) rfl rfl (news_one (Lf.cells ⟨x0, x1, x2, x3, x4, x5⟩) 44) ?c1 ?c2 ?c3 ?c4 ?_))
          case c1 => intro u hu; simp [Lf.cells] at hu; rcases hu with rfl | rfl | rfl | rfl | rfl | rfl <;> rfl
          case c2 => unfold maxLen; omega
          case c3 => omega
          case c4 => (try simp only [World.size_alloc]); omega
          intro v' w1 hown' hgrow _
          obtain ⟨a', cap', rfl, _, _⟩ := owns_shape hown'
          have JS := Lib.hid (JnRel_step (nw := ⟨x0, x1, x2, x3, x4, x5⟩) HB.out H3.out HO.out ((Below.refl _ _).alloc (Nat.le_refl _) _) hgrow hown')
          have B := grown_below (B := w.heap.size + 4) ((Below.refl _ _).alloc (Nat.le_refl _) _) (by omega) HO.out hgrow
          have d3 := blk_cell (blk_below B H3.out (by omega)) 0
          have g3 := blk_free (blk_below B H3.out (by omega)) 0
          simp at d3
          clear B hown' hgrow
          go_wp2_with fail
          generalize w1.setCell ⟨w.heap.size + 1 + 1 + 1, 0, none⟩ (.slice a' (S.length + 1) cap') = wz at JS ⊢
          have kz0 := blk_cell JS.out.1.2.1 0
          have ez0 := blk_cell JS.out.1.2.2.1 0
          have az0 : wz.cell? ⟨b0, o0 + n * 6, none⟩ = some (.int .i64 y0) := by
            rw [JS.out.1.1.cell (p := ⟨b0, o0 + n * 6, none⟩) hb0]
            have := Q.out n 0 hlt (by omega)
            rw [← HX.out] at this
            exact this
          have lz := cell_lt az0
          have lz0 := lt_of_block JS.out.1.2.1
          simp [Lf.cells] at kz0 ez0
          clear HB H3 HO k0 e0 e1 e2 e3 e4 e5 f3 c3 l3 a0 a1 a2 a3 a4 a5 lb nb n0 n3 ff3
          clear d3 g3
          go_quiet (fail)
          go_wp2
          go_roundw
          case rel => exact ⟨n + 1, by omega, by go_num, by rw [hd'], HEND.out _ (JnRel_drewN _ JS.out)⟩
          case measure => simp [intOf]; omega
        · skip
          have hg4 : (y0 != x0) = true := by rw [bne_iff_ne]; omega
          have HEND : Hid (∀ W, JnRel w W (.slice (some ⟨b0, o0, none⟩) L.length c0) (.slice ar nr cr) ⟨x0, x1, x2, x3, x4, x5⟩ (S ++ [⟨x0, x1, x2, x3, x4, x5⟩] ++ [⟨y0, y1, y2, y3, y4, y5⟩]) → JnRel w W (.slice (some ⟨b0, o0, none⟩) L.length c0) (.slice ar nr cr) ⟨x0, x1, x2, x3, x4, x5⟩ (jnS L ⟨x0, x1, x2, x3, x4, x5⟩ p E (n + 1))) := fun W h => by
            have e : jnS L ⟨x0, x1, x2, x3, x4, x5⟩ p E (n + 1) = S ++ [⟨x0, x1, x2, x3, x4, x5⟩] ++ [⟨y0, y1, y2, y3, y4, y5⟩] := by rw [HX.out, HS.out, HNP.out, hE, jnS_zero (by have := HNP.out; omega)]
            rw [e]; exact h
          have hd : decide (p < n) = false := decide_eq_false (by omega)
          have hd' : decide (p < n + 1) = true := decide_eq_true (by omega)
          rw [hd]
          have hg1 : x0 ≤ y0 := by omega
          have hg2 : decide (x0 ≤ y0) = true := decide_eq_true hg1
          have hg3 : decide (y0 ≥ x0) = true := decide_eq_true hg1
          obtain ⟨⟨hb, hh0, hh1, hh2⟩, a, cap, hh3, hown⟩ := JR.out
          have HB := Lib.hid (show JnB w wr (.slice (some ⟨b0, o0, none⟩) L.length c0) (.slice ar nr cr) ⟨x0, x1, x2, x3, x4, x5⟩ from ⟨hb, hh0, hh1, hh2⟩)
          have H3 := Lib.hid hh3
          have HO := Lib.hid hown
          have k0 := blk_cell hh0 0
          have e0 := blk_cell hh1 0
          have e1 := blk_cell hh1 1
          have e2 := blk_cell hh1 2
          have e3 := blk_cell hh1 3
          have e4 := blk_cell hh1 4
          have e5 := blk_cell hh1 5
          have f3 := blk_free hh3 0
          have c3 := blk_cell hh3 0
          have l3 := lt_of_block hh3
          simp [Lf.cells] at k0 e0 e1 e2 e3 e4 e5 c3
          have hold : ∀ j, j < 6 → wr.cell? ⟨b0, o0 + n * 6 + j, none⟩ = (Lf.cells ⟨y0, y1, y2, y3, y4, y5⟩)[j]? := fun j hj => by
            rw [hb.cell (p := ⟨b0, o0 + n * 6 + j, none⟩) hb0, HX.out]; exact Q.out n j hlt hj
          have a0 := hold 0 (by omega)
          have a1 := hold 1 (by omega)
          have a2 := hold 2 (by omega)
          have a3 := hold 3 (by omega)
          have a4 := hold 4 (by omega)
          have a5 := hold 5 (by omega)
          simp only [Lf.cells, List.getElem?_cons_zero, List.getElem?_cons_succ, Nat.add_zero] at a0 a1 a2 a3 a4 a5
          have lb := cell_lt a0
          have nb : (Value.slice a S.length cap).ownBlock ≠ some b0 := by intro h; have := (hown.lt _ h).1; omega
          have n0 : (Value.slice a S.length cap).ownBlock ≠ some w.heap.size := by intro h; have := (hown.lt _ h).1; omega
          have n3 : (Value.slice a S.length cap).ownBlock ≠ some (w.heap.size + 1 + 1 + 1) := by intro h; have := (hown.lt _ h).1; omega
          have ff3 := free_alloc f3 l3
          clear hold hb hh0 hh1 hh2 hh3 hown
          clear hE hnp
          go_wp2_with fail
          go_quiet (fail)
          have JQ := Lib.hid (JnRel_drewN nq JR.out)
          clear HB H3 HO k0 e0 e1 e2 e3 e4 e5 f3 c3 l3 a0 a1 a2 a3 a4 a5 lb nb n0 n3 ff3
          clear JR
          generalize wr.drewN nq = wy at JQ ⊢
          have JR := JQ
          clear JQ
          obtain ⟨⟨hb, hh0, hh1, hh2⟩, a, cap, hh3, hown⟩ := JR.out
          have HB := Lib.hid (show JnB w wy (.slice (some ⟨b0, o0, none⟩) L.length c0) (.slice ar nr cr) ⟨x0, x1, x2, x3, x4, x5⟩ from ⟨hb, hh0, hh1, hh2⟩)
          have H3 := Lib.hid hh3
          have HO := Lib.hid hown
          have k0 := blk_cell hh0 0
          have e0 := blk_cell hh1 0
          have e1 := blk_cell hh1 1
          have e2 := blk_cell hh1 2
          have e3 := blk_cell hh1 3
          have e4 := blk_cell hh1 4
          have e5 := blk_cell hh1 5
          have f3 := blk_free hh3 0
          have c3 := blk_cell hh3 0
          have l3 := lt_of_block hh3
          simp [Lf.cells] at k0 e0 e1 e2 e3 e4 e5 c3
          have hold : ∀ j, j < 6 → wy.cell? ⟨b0, o0 + n * 6 + j, none⟩ = (Lf.cells ⟨y0, y1, y2, y3, y4, y5⟩)[j]? := fun j hj => by
            rw [hb.cell (p := ⟨b0, o0 + n * 6 + j, none⟩) hb0, HX.out]; exact Q.out n j hlt hj
          have a0 := hold 0 (by omega)
          have a1 := hold 1 (by omega)
          have a2 := hold 2 (by omega)
          have a3 := hold 3 (by omega)
          have a4 := hold 4 (by omega)
          have a5 := hold 5 (by omega)
          simp only [Lf.cells, List.getElem?_cons_zero, List.getElem?_cons_succ, Nat.add_zero] at a0 a1 a2 a3 a4 a5
          have lb := cell_lt a0
          have nb : (Value.slice a S.length cap).ownBlock ≠ some b0 := by intro h; have := (hown.lt _ h).1; omega
          have n0 : (Value.slice a S.length cap).ownBlock ≠ some w.heap.size := by intro h; have := (hown.lt _ h).1; omega
          have n3 : (Value.slice a S.length cap).ownBlock ≠ some (w.heap.size + 1 + 1 + 1) := by intro h; have := (hown.lt _ h).1; omega
          have ff3 := free_alloc f3 l3
          clear hold hb hh0 hh1 hh2 hh3 hown
          go_wp2_with (at_builtin; go_loud (refine wpList_append_own _ rfl _ _ 22 rfl (w.heap.size + 4) 44 i0 (.agg #[.int .i64 0, .int .i64 0, .int .i64 0, .int .i64 0, .int .i64 0, .int .i64 0]) 6 48 Try.underlying22 ji ji0 ji1 ji2 rfl (by decide) _ S.length _ rfl (HO.out.alloc _) ⟨wy.heap.size, 0, none⟩ 1 1 (Lf.cells ⟨x0, x1, x2, x3, x4, x5⟩) rfl rfl (news_one (Lf.cells ⟨x0, x1, x2, x3, x4, x5⟩) 44) ?c1 ?c2 ?c3 ?c4 ?_))
          case c1 => intro u hu; simp [Lf.cells] at hu; rcases hu with rfl | rfl | rfl | rfl | rfl | rfl <;> rfl
          case c2 => unfold maxLen; omega
          case c3 => omega
          case c4 => (try simp only [World.size_alloc]); omega
          intro v' w1 hown' hgrow _
          obtain ⟨a', cap', rfl, _, _⟩ := owns_shape hown'
          have JS := Lib.hid (JnRel_step (nw := ⟨x0, x1, x2, x3, x4, x5⟩) HB.out H3.out HO.out ((Below.refl _ _).alloc (Nat.le_refl _) _) hgrow hown')
          have B := grown_below (B := w.heap.size + 4) ((Below.refl _ _).alloc (Nat.le_refl _) _) (by omega) HO.out hgrow
          have d3 := blk_cell (blk_below B H3.out (by omega)) 0
          have g3 := blk_free (blk_below B H3.out (by omega)) 0
          simp at d3
          clear B hown' hgrow
          go_wp2_with fail
          generalize w1.setCell ⟨w.heap.size + 1 + 1 + 1, 0, none⟩ (.slice a' (S.length + 1) cap') = wz at JS ⊢
          clear HB H3 HO k0 e0 e1 e2 e3 e4 e5 f3 c3 l3 a0 a1 a2 a3 a4 a5 lb nb n0 n3 ff3
          clear d3 g3 HS JR
          have JR := JS
          clear JS
          have hSl' : (S ++ [Lf.mk x0 x1 x2 x3 x4 x5]).length ≤ n + 1 + 1 := by simpa using hSl
          generalize S ++ [Lf.mk x0 x1 x2 x3 x4 x5] = S1 at JR HEND hSl'
          clear hSl
          obtain ⟨⟨hb, hh0, hh1, hh2⟩, a, cap, hh3, hown⟩ := JR.out
          have HB := Lib.hid (show JnB w wz (.slice (some ⟨b0, o0, none⟩) L.length c0) (.slice ar nr cr) ⟨x0, x1, x2, x3, x4, x5⟩ from ⟨hb, hh0, hh1, hh2⟩)
          have H3 := Lib.hid hh3
          have HO := Lib.hid hown
          have k0 := blk_cell hh0 0
          have e0 := blk_cell hh1 0
          have e1 := blk_cell hh1 1
          have e2 := blk_cell hh1 2
          have e3 := blk_cell hh1 3
          have e4 := blk_cell hh1 4
          have e5 := blk_cell hh1 5
          have f3 := blk_free hh3 0
          have c3 := blk_cell hh3 0
          have l3 := lt_of_block hh3
          simp [Lf.cells] at k0 e0 e1 e2 e3 e4 e5 c3
          have hold : ∀ j, j < 6 → wz.cell? ⟨b0, o0 + n * 6 + j, none⟩ = (Lf.cells ⟨y0, y1, y2, y3, y4, y5⟩)[j]? := fun j hj => by
            rw [hb.cell (p := ⟨b0, o0 + n * 6 + j, none⟩) hb0, HX.out]; exact Q.out n j hlt hj
          have a0 := hold 0 (by omega)
          have a1 := hold 1 (by omega)
          have a2 := hold 2 (by omega)
          have a3 := hold 3 (by omega)
          have a4 := hold 4 (by omega)
          have a5 := hold 5 (by omega)
          simp only [Lf.cells, List.getElem?_cons_zero, List.getElem?_cons_succ, Nat.add_zero] at a0 a1 a2 a3 a4 a5
          have lb := cell_lt a0
          have nb : (Value.slice a S1.length cap).ownBlock ≠ some b0 := by intro h; have := (hown.lt _ h).1; omega
          have n0 : (Value.slice a S1.length cap).ownBlock ≠ some w.heap.size := by intro h; have := (hown.lt _ h).1; omega
          have n3 : (Value.slice a S1.length cap).ownBlock ≠ some (w.heap.size + 1 + 1 + 1) := by intro h; have := (hown.lt _ h).1; omega
          have ff3 := free_alloc f3 l3
          clear hold hb hh0 hh1 hh2 hh3 hown
          go_wp2_with fail
          go_quiet (fail)
          have JQ := Lib.hid (JnRel_drewN nq JR.out)
          clear HB H3 HO k0 e0 e1 e2 e3 e4 e5 f3 c3 l3 a0 a1 a2 a3 a4 a5 lb nb n0 n3 ff3
          clear JR
          generalize wz.drewN nq = wu at JQ ⊢
          have JR := JQ
          clear JQ
          obtain ⟨⟨hb, hh0, hh1, hh2⟩, a, cap, hh3, hown⟩ := JR.out
          have HB := Lib.hid (show JnB w wu (.slice (some ⟨b0, o0, none⟩) L.length c0) (.slice ar nr cr) ⟨x0, x1, x2, x3, x4, x5⟩ from ⟨hb, hh0, hh1, hh2⟩)
          have H3 := Lib.hid hh3
          have HO := Lib.hid hown
          have k0 := blk_cell hh0 0
          have e0 := blk_cell hh1 0
          have e1 := blk_cell hh1 1
          have e2 := blk_cell hh1 2
          have e3 := blk_cell hh1 3
          have e4 := blk_cell hh1 4
          have e5 := blk_cell hh1 5
          have f3 := blk_free hh3 0
          have c3 := blk_cell hh3 0
          have l3 := lt_of_block hh3
          simp [Lf.cells] at k0 e0 e1 e2 e3 e4 e5 c3
          have hold : ∀ j, j < 6 → wu.cell? ⟨b0, o0 + n * 6 + j, none⟩ = (Lf.cells ⟨y0, y1, y2, y3, y4, y5⟩)[j]? := fun j hj => by
            rw [hb.cell (p := ⟨b0, o0 + n * 6 + j, none⟩) hb0, HX.out]; exact Q.out n j hlt hj
          have a0 := hold 0 (by omega)
          have a1 := hold 1 (by omega)
          have a2 := hold 2 (by omega)
          have a3 := hold 3 (by omega)
          have a4 := hold 4 (by omega)
          have a5 := hold 5 (by omega)
          simp only [Lf.cells, List.getElem?_cons_zero, List.getElem?_cons_succ, Nat.add_zero] at a0 a1 a2 a3 a4 a5
          have lb := cell_lt a0
          have nb : (Value.slice a S1.length cap).ownBlock ≠ some b0 := by intro h; have := (hown.lt _ h).1; omega
          have n0 : (Value.slice a S1.length cap).ownBlock ≠ some w.heap.size := by intro h; have := (hown.lt _ h).1; omega
          have n3 : (Value.slice a S1.length cap).ownBlock ≠ some (w.heap.size + 1 + 1 + 1) := by intro h; have := (hown.lt _ h).1; omega
          have ff3 := free_alloc f3 l3
          clear hold hb hh0 hh1 hh2 hh3 hown
          go_wp2_with fail
          go_region_law ((refine step_append_lies _ (by rfl) _ _ 22 (by rfl) (w.heap.size + 4) 44 i0 (.agg #[.int .i64 0, .int .i64 0, .int .i64 0, .int .i64 0, .int .i64 0, .int .i64 0]) 6 48 Try.underlying22 ji ji0 ji1 ji2 rfl (by decide) (.slice a S1.length cap) S1.length _ (by rfl) ((HO.out.alloc _).drew) ⟨wu.heap.size, 0, none⟩ 1 1 (Lf.cells ⟨y0, y1, y2, y3, y4, y5⟩) (by rfl) (by rfl) (World.news_of_block (cs := #[.int .i64 y0, .int .i64 y1, .int .i64 y2, .int .i64 y3, .int .i64 y4, .int .i64 y5]) (t := 44) (fr := (0, 0)) (heap_alloc_new wu _)) (by simp [Lf.cells, Value.oneCell']) (by omega) (by unfold maxLen; omega) (by omega) (by simp; omega) (wu.heap.size + 1) (by simp) ?_; intro gg capg w1 hown1 hgrow hat hltg; have d3 := hgrow.cell_far ⟨w.heap.size + 1 + 1 + 1, 0, none⟩ (by simp; omega) (Ne.symm n3); have g3 := hgrow.frozen_far ⟨w.heap.size + 1 + 1 + 1, 0, none⟩ (by simp; omega) (Ne.symm n3); simp [ff3] at g3; simp at d3; have sz1 : w.heap.size + 1 + 1 + 1 < w1.heap.size := (by have := hgrow.size; simp at this; omega)))
          all_goals
            have JS := Lib.hid (JnRel_step (nw := ⟨y0, y1, y2, y3, y4, y5⟩) HB.out H3.out HO.out (((Below.refl _ _).alloc (Nat.le_refl _) _).drew) hgrow hown1)
            clear hown1 hgrow d3 g3 hat
            go_wp2
            go_roundw
            case rel => exact ⟨n + 1, by omega, by go_num, by rw [hd'], HEND.out _ JS.out⟩
            case measure => simp [intOf]; omega
      · skip
        have hy : x0 < y0 := by have := H2.out n hnp hlt; rw [← HX.out] at this; exact this
        have HEND : Hid (∀ W, JnRel w W (.slice (some ⟨b0, o0, none⟩) L.length c0) (.slice ar nr cr) ⟨x0, x1, x2, x3, x4, x5⟩ (S ++ [⟨y0, y1, y2, y3, y4, y5⟩]) → JnRel w W (.slice (some ⟨b0, o0, none⟩) L.length c0) (.slice ar nr cr) ⟨x0, x1, x2, x3, x4, x5⟩ (jnS L ⟨x0, x1, x2, x3, x4, x5⟩ p E (n + 1))) := fun W h => by rw [jnS_gt hnp hE1 hlt, ← HS.out, ← HX.out]; exact h
        have hd : decide (p < n) = true := decide_eq_true (by omega)
        have hd' : decide (p < n + 1) = true := decide_eq_true (by omega)
        rw [hd]
        have hg4 : (y0 != x0) = true := by rw [bne_iff_ne]; omega
        obtain ⟨⟨hb, hh0, hh1, hh2⟩, a, cap, hh3, hown⟩ := JR.out
        have HB := Lib.hid (show JnB w wr (.slice (some ⟨b0, o0, none⟩) L.length c0) (.slice ar nr cr) ⟨x0, x1, x2, x3, x4, x5⟩ from ⟨hb, hh0, hh1, hh2⟩)
        have H3 := Lib.hid hh3
        have HO := Lib.hid hown
        have k0 := blk_cell hh0 0
        have e0 := blk_cell hh1 0
        have e1 := blk_cell hh1 1
        have e2 := blk_cell hh1 2
        have e3 := blk_cell hh1 3
        have e4 := blk_cell hh1 4
        have e5 := blk_cell hh1 5
        have f3 := blk_free hh3 0
        have c3 := blk_cell hh3 0
        have l3 := lt_of_block hh3
        simp [Lf.cells] at k0 e0 e1 e2 e3 e4 e5 c3
        have hold : ∀ j, j < 6 → wr.cell? ⟨b0, o0 + n * 6 + j, none⟩ = (Lf.cells ⟨y0, y1, y2, y3, y4, y5⟩)[j]? := fun j hj => by
          rw [hb.cell (p := ⟨b0, o0 + n * 6 + j, none⟩) hb0, HX.out]; exact Q.out n j hlt hj
        have a0 := hold 0 (by omega)
        have a1 := hold 1 (by omega)
        have a2 := hold 2 (by omega)
        have a3 := hold 3 (by omega)
        have a4 := hold 4 (by omega)
        have a5 := hold 5 (by omega)
        simp only [Lf.cells, List.getElem?_cons_zero, List.getElem?_cons_succ, Nat.add_zero] at a0 a1 a2 a3 a4 a5
        have lb := cell_lt a0
        have nb : (Value.slice a S.length cap).ownBlock ≠ some b0 := by intro h; have := (hown.lt _ h).1; omega
        have n0 : (Value.slice a S.length cap).ownBlock ≠ some w.heap.size := by intro h; have := (hown.lt _ h).1; omega
        have n3 : (Value.slice a S.length cap).ownBlock ≠ some (w.heap.size + 1 + 1 + 1) := by intro h; have := (hown.lt _ h).1; omega
        have ff3 := free_alloc f3 l3
        clear hold hb hh0 hh1 hh2 hh3 hown
        go_wp2_with fail
        go_quiet (fail)
        have JQ := Lib.hid (JnRel_drewN nq JR.out)
        clear HB H3 HO k0 e0 e1 e2 e3 e4 e5 f3 c3 l3 a0 a1 a2 a3 a4 a5 lb nb n0 n3 ff3
        clear JR
        generalize wr.drewN nq = wy at JQ ⊢
        have JR := JQ
        clear JQ
        obtain ⟨⟨hb, hh0, hh1, hh2⟩, a, cap, hh3, hown⟩ := JR.out
        have HB := Lib.hid (show JnB w wy (.slice (some ⟨b0, o0, none⟩) L.length c0) (.slice ar nr cr) ⟨x0, x1, x2, x3, x4, x5⟩ from ⟨hb, hh0, hh1, hh2⟩)
        have H3 := Lib.hid hh3
        have HO := Lib.hid hown
        have k0 := blk_cell hh0 0
        have e0 := blk_cell hh1 0
        have e1 := blk_cell hh1 1
        have e2 := blk_cell hh1 2
        have e3 := blk_cell hh1 3
        have e4 := blk_cell hh1 4
        have e5 := blk_cell hh1 5
        have f3 := blk_free hh3 0
        have c3 := blk_cell hh3 0
        have l3 := lt_of_block hh3
        simp [Lf.cells] at k0 e0 e1 e2 e3 e4 e5 c3
        have hold : ∀ j, j < 6 → wy.cell? ⟨b0, o0 + n * 6 + j, none⟩ = (Lf.cells ⟨y0, y1, y2, y3, y4, y5⟩)[j]? := fun j hj => by
          rw [hb.cell (p := ⟨b0, o0 + n * 6 + j, none⟩) hb0, HX.out]; exact Q.out n j hlt hj
        have a0 := hold 0 (by omega)
        have a1 := hold 1 (by omega)
        have a2 := hold 2 (by omega)
        have a3 := hold 3 (by omega)
        have a4 := hold 4 (by omega)
        have a5 := hold 5 (by omega)
        simp only [Lf.cells, List.getElem?_cons_zero, List.getElem?_cons_succ, Nat.add_zero] at a0 a1 a2 a3 a4 a5
        have lb := cell_lt a0
        have nb : (Value.slice a S.length cap).ownBlock ≠ some b0 := by intro h; have := (hown.lt _ h).1; omega
        have n0 : (Value.slice a S.length cap).ownBlock ≠ some w.heap.size := by intro h; have := (hown.lt _ h).1; omega
        have n3 : (Value.slice a S.length cap).ownBlock ≠ some (w.heap.size + 1 + 1 + 1) := by intro h; have := (hown.lt _ h).1; omega
        have ff3 := free_alloc f3 l3
        clear hold hb hh0 hh1 hh2 hh3 hown
        go_wp2_with fail
        go_quiet (fail)
        have JQ := Lib.hid (JnRel_drewN nq JR.out)
        clear HB H3 HO k0 e0 e1 e2 e3 e4 e5 f3 c3 l3 a0 a1 a2 a3 a4 a5 lb nb n0 n3 ff3
        clear JR
        generalize wy.drewN nq = wz at JQ ⊢
        have JR := JQ
        clear JQ
        obtain ⟨⟨hb, hh0, hh1, hh2⟩, a, cap, hh3, hown⟩ := JR.out
        have HB := Lib.hid (show JnB w wz (.slice (some ⟨b0, o0, none⟩) L.length c0) (.slice ar nr cr) ⟨x0, x1, x2, x3, x4, x5⟩ from ⟨hb, hh0, hh1, hh2⟩)
        have H3 := Lib.hid hh3
        have HO := Lib.hid hown
        have k0 := blk_cell hh0 0
        have e0 := blk_cell hh1 0
        have e1 := blk_cell hh1 1
        have e2 := blk_cell hh1 2
        have e3 := blk_cell hh1 3
        have e4 := blk_cell hh1 4
        have e5 := blk_cell hh1 5
        have f3 := blk_free hh3 0
        have c3 := blk_cell hh3 0
        have l3 := lt_of_block hh3
        simp [Lf.cells] at k0 e0 e1 e2 e3 e4 e5 c3
        have hold : ∀ j, j < 6 → wz.cell? ⟨b0, o0 + n * 6 + j, none⟩ = (Lf.cells ⟨y0, y1, y2, y3, y4, y5⟩)[j]? := fun j hj => by
          rw [hb.cell (p := ⟨b0, o0 + n * 6 + j, none⟩) hb0, HX.out]; exact Q.out n j hlt hj
        have a0 := hold 0 (by omega)
        have a1 := hold 1 (by omega)
        have a2 := hold 2 (by omega)
        have a3 := hold 3 (by omega)
        have a4 := hold 4 (by omega)
        have a5 := hold 5 (by omega)
        simp only [Lf.cells, List.getElem?_cons_zero, List.getElem?_cons_succ, Nat.add_zero] at a0 a1 a2 a3 a4 a5
        have lb := cell_lt a0
        have nb : (Value.slice a S.length cap).ownBlock ≠ some b0 := by intro h; have := (hown.lt _ h).1; omega
        have n0 : (Value.slice a S.length cap).ownBlock ≠ some w.heap.size := by intro h; have := (hown.lt _ h).1; omega
        have n3 : (Value.slice a S.length cap).ownBlock ≠ some (w.heap.size + 1 + 1 + 1) := by intro h; have := (hown.lt _ h).1; omega
        have ff3 := free_alloc f3 l3
        clear hold hb hh0 hh1 hh2 hh3 hown
        go_wp2_with fail
        go_region_law ((refine step_append_lies _ (by rfl) _ _ 22 (by rfl) (w.heap.size + 4) 44 i0 (.agg #[.int .i64 0, .int .i64 0, .int .i64 0, .int .i64 0, .int .i64 0, .int .i64 0]) 6 48 Try.underlying22 ji ji0 ji1 ji2 rfl (by decide) (.slice a S.length cap) S.length _ (by rfl) ((HO.out.alloc _).drew) ⟨wz.heap.size, 0, none⟩ 1 1 (Lf.cells ⟨y0, y1, y2, y3, y4, y5⟩) (by rfl) (by rfl) (World.news_of_block (cs := #[.int .i64 y0, .int .i64 y1, .int .i64 y2, .int .i64 y3, .int .i64 y4, .int .i64 y5]) (t := 44) (fr := (0, 0)) (heap_alloc_new wz _)) (by simp [Lf.cells, Value.oneCell']) (by omega) (by unfold maxLen; omega) (by omega) (by simp; omega) (wz.heap.size + 1) (by simp) ?_; intro gg capg w1 hown1 hgrow hat hltg; have d3 := hgrow.cell_far ⟨w.heap.size + 1 + 1 + 1, 0, none⟩ (by simp; omega) (Ne.symm n3); have g3 := hgrow.frozen_far ⟨w.heap.size + 1 + 1 + 1, 0, none⟩ (by simp; omega) (Ne.symm n3); simp [ff3] at g3; simp at d3; have sz1 : w.heap.size + 1 + 1 + 1 < w1.heap.size := (by have := hgrow.size; simp at this; omega)))
        all_goals
          have JS := Lib.hid (JnRel_step (nw := ⟨y0, y1, y2, y3, y4, y5⟩) HB.out H3.out HO.out (((Below.refl _ _).alloc (Nat.le_refl _) _).drew) hgrow hown1)
          clear hown1 hgrow d3 g3 hat
          go_wp2
          go_roundw
          case rel => exact ⟨n + 1, by omega, by go_num, by rw [hd'], HEND.out _ JS.out⟩
          case measure => simp [intOf]; omega
    · skip
      have hle : ¬ (n : Int) < (L.length : Int) := by omega
      obtain ⟨S, hS⟩ : ∃ S, S = jnS L ⟨x0, x1, x2, x3, x4, x5⟩ p E n := ⟨_, rfl⟩
      rw [← hS] at hJ hSl
      obtain ⟨⟨hb, hh0, hh1, hh2⟩, a, cap, hh3, hown⟩ := hJ
      have HB := Lib.hid (show JnB w wr (.slice a0 L.length c0) (.slice ar nr cr) ⟨x0, x1, x2, x3, x4, x5⟩ from ⟨hb, hh0, hh1, hh2⟩)
      have H3 := Lib.hid hh3
      have HO := Lib.hid hown
      have k0 := blk_cell hh0 0
      have l3 := lt_of_block hh3
      have d2 := blk_cell hh2 0
      have d2' := blk_cell hh2 1
      have g2 := blk_free hh2 0
      have g2' := blk_free hh2 1
      simp at k0 d2 d2'
      rcases (show p < L.length ∨ p = L.length by omega) with hpl | hpl
      · have HTS : Hid (T = S) := by show T = S; rw [HT.out, if_pos hpl, hS, heq]
        have hd : decide (p < n) = true := decide_eq_true (by omega)
        rw [hd]
        have c3 := blk_cell hh3 0
        have c3' := blk_cell hh3 1
        simp at c3 c3'
        clear hb hh0 hh1 hh2 hh3 hown hS
        go_wp2
        refine bodyPost_ret (v := .agg #[.slice a S.length cap, .slice ar nr cr]) ?_ rfl ⟨_, rfl, ?_, ?_⟩
        · simp [results, Try.results33, go_sem, *]
        · rw [HTS.out]; exact own_rebase (ownsRow_setCell_below (ownsRow_setCell_below HO.out (by simp) _) (by simp) _) (by omega)
        · exact (HB.out.1.setCell (by first | omega | (simp; done) | (simp; omega)) _).setCell (by first | omega | (simp; done) | (simp; omega)) _
      · have HTS : Hid (T = S ++ [⟨x0, x1, x2, x3, x4, x5⟩]) := by show T = _; rw [HT.out, if_neg (by omega), hS, heq]
        have hd : decide (p < n) = false := decide_eq_false (by omega)
        rw [hd]
        have e0 := blk_cell hh1 0
        have e1 := blk_cell hh1 1
        have e2 := blk_cell hh1 2
        have e3 := blk_cell hh1 3
        have e4 := blk_cell hh1 4
        have e5 := blk_cell hh1 5
        have f3 := blk_free hh3 0
        have c3 := blk_cell hh3 0
        simp [Lf.cells] at e0 e1 e2 e3 e4 e5 c3
        have h2x := Lib.hid hh2
        clear hb hh0 hh1 hh2 hh3 hown hS
        go_wp2_with (at_builtin; go_loud (refine wpList_append_own _ rfl _ _ 22 rfl (w.heap.size + 4) 44 i0 (.agg #[.int .i64 0, .int .i64 0, .int .i64 0, .int .i64 0, .int .i64 0, .int .i64 0]) 6 48 Try.underlying22 ji ji0 ji1 ji2 rfl (by decide) _ S.length _ rfl (HO.out.alloc _) ⟨wr.heap.size, 0, none⟩ 1 1 (Lf.cells ⟨x0, x1, x2, x3, x4, x5⟩) rfl rfl (news_one (Lf.cells ⟨x0, x1, x2, x3, x4, x5⟩) 44) ?c1 ?c2 ?c3 ?c4 ?_))
        case c1 => intro u hu; simp [Lf.cells] at hu; rcases hu with rfl | rfl | rfl | rfl | rfl | rfl <;> rfl
        case c2 => unfold maxLen; omega
        case c3 => omega
        case c4 => (try simp only [World.size_alloc]); omega
        intro v' w1 hown' hgrow _
        obtain ⟨a', cap', rfl, _, _⟩ := owns_shape hown'
        have JS := Lib.hid (JnRel_step (nw := ⟨x0, x1, x2, x3, x4, x5⟩) HB.out H3.out HO.out ((Below.refl _ _).alloc (Nat.le_refl _) _) hgrow hown')
        have B := grown_below (B := w.heap.size + 4) ((Below.refl _ _).alloc (Nat.le_refl _) _) (by omega) HO.out hgrow
        have d3 := blk_cell (blk_below B H3.out (by omega)) 0
        have g3 := blk_free (blk_below B H3.out (by omega)) 0
        simp at d3
        have d3' := blk_cell (blk_below B H3.out (by omega)) 1
        have H2b := blk_below B (h2x.out) (by omega)
        have q2 := blk_cell H2b 0
        have q2' := blk_cell H2b 1
        have r2 := blk_free H2b 0
        have r2' := blk_free H2b 1
        have lq2 := lt_of_block H2b
        simp at d3' q2 q2'
        clear H2b
        have HO2 := Lib.hid hown'
        clear B hown' hgrow
        clear d2 d2' g2 g2' c3 f3
        go_wp2
        refine bodyPost_ret (v := .agg #[.slice a' (S.length + 1) cap', .slice ar nr cr]) ?_ rfl ⟨_, rfl, ?_, ?_⟩
        · simp [results, Try.results33, go_sem, *]
        · rw [HTS.out]
          have e9' : (S ++ [Lf.mk x0 x1 x2 x3 x4 x5]).length = S.length + 1 := by simp
          have e8 : ((S ++ [Lf.mk x0 x1 x2 x3 x4 x5]).map Lf.cells).flatten = (S.map Lf.cells).flatten ++ Lf.cells ⟨x0, x1, x2, x3, x4, x5⟩ := by simp
          rw [e9', e8]
          exact own_rebase (ownsRow_setCell_below (ownsRow_setCell_below (ownsRow_setCell_below HO2.out (by simp) _) (by simp) _) (by simp) _) (by omega)
        · exact (JS.out.1.1.setCell (by first | omega | (simp; done) | (simp; omega)) _).setCell (by first | omega | (simp; done) | (simp; omega)) _
end Go.Proofs.Ythngedmmeiiklaa

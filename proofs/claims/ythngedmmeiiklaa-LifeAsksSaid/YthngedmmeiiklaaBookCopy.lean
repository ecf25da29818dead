/- usherref.BookCopy: its contract. -/
import Derived.Test.YthngedmmeiiklaaBook
import Derived.Deep.RegionHeld3
import Derived.Deep.RegionLaw
import Derived.Deep.AppendLies
namespace Go.Proofs.Ythngedmmeiiklaa
open Go.RowKit

theorem info_lf : (Try.prog.info? 44).map (fun i => (i.zero, i.size, i.bytes)) = some (some (.agg #[.int .i64 0, .int .i64 0, .int .i64 0, .int .i64 0, .int .i64 0, .int .i64 0]), 6, 48) := by kernel_rfl
theorem info_rq : (Try.prog.info? 31).map (fun i => (i.zero, i.size, i.bytes)) = some (some (.agg #[.int .i64 0, .int .i64 0, .int .i64 0, .int .i64 0, .int .i64 0]), 5, 40) := by kernel_rfl
theorem lenb_Lf (X : List Lf) : ∀ c ∈ X.map Lf.cells, c.length = 6 := by
  intro c hc; simp only [List.mem_map] at hc; obtain ⟨x, _, rfl⟩ := hc; rfl
theorem lenb_Rq (X : List Rq) : ∀ c ∈ X.map Rq.cells, c.length = 5 := by
  intro c hc; simp only [List.mem_map] at hc; obtain ⟨x, _, rfl⟩ := hc; rfl
theorem two_setCell0 {w : World} {b : Nat} {u v v' : Value} {t : TypeId} (h : w.heap[b]? = some (.cells #[u, v] t (0, 0))) : (w.setCell ⟨b, 0, none⟩ v').heap[b]? = some (.cells #[v', v] t (0, 0)) := by
  have hlt := lt_of_block h
  have h' : w.heap[b] = .cells #[u, v] t (0, 0) := by simpa [Array.getElem?_eq_getElem hlt] using h
  show (w.heap.modify b _)[b]? = _
  rw [Array.getElem?_eq_getElem (by simpa using hlt), Array.getElem_modify_self, h']
  rfl
/-- A row of the call's own stays so while another grows. -/
theorem own_far {w w' : World} {B e sz n m cap : Nat} {v : Value} {a : Option Addr} {cs : List Value} (h : w.ownsRow B e sz v n cs) (hg : w.grownBy w' (Value.slice a m cap).ownBlock) (hne : ∀ b, v.ownBlock = some b → (Value.slice a m cap).ownBlock ≠ some b) : w'.ownsRow B e sz v n cs := by
  obtain ⟨h1, h2 | ⟨g, cap', cur, h3, h4, h5, h6⟩⟩ := h
  · exact ⟨h1, Or.inl h2⟩
  · exact ⟨h1, Or.inr ⟨g, cap', cur, h3, h4, (hg.block _ (lt_of_block h5) (fun e => hne g (by rw [h3]; rfl) e.symm)).trans h5, h6⟩⟩
theorem own_rebase {w : World} {B B' e sz n : Nat} {v : Value} {cs : List Value} (h : w.ownsRow B e sz v n cs) (hB : B' ≤ B) : w.ownsRow B' e sz v n cs := by
  obtain ⟨h1, h2 | ⟨g, cap', cur, h3, h4, h5, h6⟩⟩ := h
  · exact ⟨h1, Or.inl h2⟩
  · exact ⟨h1, Or.inr ⟨g, cap', cur, h3, Nat.le_trans hB h4, h5, h6⟩⟩
/-- The end of BookCopy. -/
def BkNew (B : Nat) (w : World) (v : Value) (L : List Lf) (R : List Rq) : Prop := ∃ v1 v2, v = .agg #[v1, v2] ∧ RowNew B w 6 v1 (L.map Lf.cells) ∧ RowNew B w 5 v2 (R.map Rq.cells)
/-- .. with what it owns. -/
def BkOwn (w : World) (L : List Lf) (R : List Rq) (e : Ending) (w' : World) : Prop := ∃ v1 v2, e = .returned (.agg #[v1, v2]) ∧ w'.ownsRow w.heap.size 44 6 v1 L.length (L.map Lf.cells).flatten ∧ w'.ownsRow w.heap.size 31 5 v2 R.length (R.map Rq.cells).flatten ∧ (∀ b, v1.ownBlock = some b → v2.ownBlock ≠ some b) ∧ Below w.heap.size w w'
def BkPost (w : World) (L : List Lf) (R : List Rq) (e : Ending) (w' : World) : Prop := ∃ v1 v2, e = .returned (.agg #[v1, v2]) ∧ RowNew w.heap.size w' 6 v1 (L.map Lf.cells) ∧ RowNew w.heap.size w' 5 v2 (R.map Rq.cells) ∧ Below w.heap.size w w'
def Bc0 (w wr : World) (vl vr : Value) : Prop := Below w.heap.size w wr ∧ wr.heap[w.heap.size]? = some (.cells #[vl, vr] 25 (0, 0)) ∧ wr.heap[w.heap.size + 1]? = some (.cells #[.slice none 0 0, .slice none 0 0] 25 (0, 0))
def Bc1 (w wr : World) (vl vr : Value) (L : List Lf) (k : Nat) : Prop := Bc0 w wr vl vr ∧ ∃ (a : Option Addr) (cap : Nat), wr.heap[w.heap.size + 1 + 1]? = some (.cells #[.slice a k cap, .slice none 0 0] 25 (0, 0)) ∧ wr.ownsRow (w.heap.size + 3) 44 6 (.slice a k cap) k ((L.map Lf.cells).take k).flatten
def Bc2 (w wr : World) (vl vr : Value) (L : List Lf) (R : List Rq) (M : Nat) (s1 : Value) (k : Nat) : Prop := Bc0 w wr vl vr ∧ w.heap.size + 3 ≤ M ∧ M ≤ wr.heap.size ∧ (∀ b, s1.ownBlock = some b → b < M) ∧ wr.ownsRow (w.heap.size + 3) 44 6 s1 L.length (L.map Lf.cells).flatten ∧
  ∃ (a : Option Addr) (cap : Nat), wr.heap[w.heap.size + 1 + 1]? = some (.cells #[s1, .slice a k cap] 25 (0, 0)) ∧ wr.ownsRow M 31 5 (.slice a k cap) k ((R.map Rq.cells).take k).flatten

theorem Bc1_step {w wr wx w1 : World} {vl vr : Value} {L : List Lf} {n : Nat} {a a' : Option Addr} {cap cap' : Nat} {nw : Lf} (h0 : Bc0 w wr vl vr)
    (hh3 : wr.heap[w.heap.size + 1 + 1]? = some (.cells #[.slice a n cap, .slice none 0 0] 25 (0, 0))) (hown0 : wr.ownsRow (w.heap.size + 3) 44 6 (.slice a n cap) n ((L.map Lf.cells).take n).flatten)
    (hx : Below wr.heap.size wr wx) (hgrow : wx.grownBy w1 (Value.slice a n cap).ownBlock) (hown : w1.ownsRow (w.heap.size + 3) 44 6 (.slice a' (n + 1) cap') (n + 1) (((L.map Lf.cells).take n).flatten ++ nw.cells)) (hlt : n < L.length) (hnw : nw = L.getD n Lf.zero) :
    Bc1 w (w1.setCell ⟨w.heap.size + 1 + 1, 0, none⟩ (.slice a' (n + 1) cap')) vl vr L (n + 1) := by
  obtain ⟨hb, hh0, hh1⟩ := h0
  have hl := lt_of_block hh3
  have B := grown_below (B := w.heap.size + 3) hx (by omega) hown0 hgrow
  have e : ((L.map Lf.cells).take (n + 1)).flatten = ((L.map Lf.cells).take n).flatten ++ nw.cells := by
    rw [List.take_succ_eq_append_getElem (by simpa using hlt), List.flatten_append, hnw]
    simp [List.getD, hlt]
  refine ⟨⟨(hb.trans (B.mono (by omega))).setCell (by simp; omega) _, blk_set_ne (blk_below B hh0 (by omega)) (by omega), blk_set_ne (blk_below B hh1 (by omega)) (by omega)⟩, a', cap', ?_, ?_⟩
  · exact two_setCell0 (blk_below B hh3 (by omega))
  · rw [e]; exact ownsRow_setCell_below hown (by simp) _
theorem Bc2_step {w wr wx w1 : World} {vl vr s1 : Value} {L : List Lf} {R : List Rq} {n M : Nat} {a a' : Option Addr} {cap cap' : Nat} {nw : Rq} (h0 : Bc0 w wr vl vr) (hM1 : w.heap.size + 3 ≤ M) (hM2 : M ≤ wr.heap.size) (hs1 : ∀ b, s1.ownBlock = some b → b < M) (ho1 : wr.ownsRow (w.heap.size + 3) 44 6 s1 L.length (L.map Lf.cells).flatten)
    (hh3 : wr.heap[w.heap.size + 1 + 1]? = some (.cells #[s1, .slice a n cap] 25 (0, 0))) (hown0 : wr.ownsRow M 31 5 (.slice a n cap) n ((R.map Rq.cells).take n).flatten)
    (hx : Below wr.heap.size wr wx) (hgrow : wx.grownBy w1 (Value.slice a n cap).ownBlock) (hown : w1.ownsRow M 31 5 (.slice a' (n + 1) cap') (n + 1) (((R.map Rq.cells).take n).flatten ++ nw.cells)) (hlt : n < R.length) (hnw : nw = R.getD n Rq.zero) :
    Bc2 w (w1.setCell ⟨w.heap.size + 1 + 1, 1, none⟩ (.slice a' (n + 1) cap')) vl vr L R M s1 (n + 1) := by
  obtain ⟨hb, hh0, hh1⟩ := h0
  have hl := lt_of_block hh3
  have B := grown_below (B := M) hx hM2 hown0 hgrow
  have e : ((R.map Rq.cells).take (n + 1)).flatten = ((R.map Rq.cells).take n).flatten ++ nw.cells := by
    rw [List.take_succ_eq_append_getElem (by simpa using hlt), List.flatten_append, hnw]
    simp [List.getD, hlt]
  refine ⟨⟨(hb.trans (B.mono (by omega))).setCell (by simp; omega) _, blk_set_ne (blk_below B hh0 (by omega)) (by omega), blk_set_ne (blk_below B hh1 (by omega)) (by omega)⟩, hM1, ?_, hs1, ?_, a', cap', ?_, ?_⟩
  · simp; exact Nat.le_trans hM2 B.size
  · refine ownsRow_setCell_below ?_ (by simp) _
    refine own_far (own_keep ho1 hx) hgrow fun b hb2 hb3 => ?_
    have h1 := hs1 b hb2
    have h2 := (hown0.lt b hb3).1
    omega
  · exact two_setCell1 (blk_below B hh3 (by omega))
  · rw [e]; exact ownsRow_setCell_below hown (by simp; omega) _

set_option maxHeartbeats 4000000 in
set_option maxRecDepth 100000 in
theorem ref_BookCopyO (vl vr : Value) (L : List Lf) (R : List Rq) (w : World) (hl : RowAt w 6 vl (L.map Lf.cells)) (hr : RowAt w 5 vr (R.map Rq.cells)) (hn1 : L.length * 48 ≤ 140737488351232) (hn2 : R.length * 40 ≤ 140737488351232) :
    Calls Try.prog 23 #[.agg #[vl, vr]] w (BkOwn w L R) := by
  obtain ⟨i0, ji, ji0, ji1, ji2⟩ := info_parts info_lf
  obtain ⟨i1, ki, ki0, ki1, ki2⟩ := info_parts info_rq
  obtain ⟨a0, c0, rfl, l, m, n, p⟩ := RowAt_fn Lf.zero hl
  obtain ⟨a1, c1, rfl, l', m', n', p'⟩ := RowAt_fn Rq.zero hr
  have P := Lib.hid p
  have P' := Lib.hid p'
  have hn3 : L.length ≤ 9223372036854775807 := by omega
  have hn4 : R.length ≤ 9223372036854775807 := by omega
  clear hl hr p p' l m n l' m' n'
  go_enter Try.func23, Try.ntmps23
  go_wp2_with fail
  go_loopw [4] (fun k wr => ∃ n : Nat, n ≤ L.length ∧ k = .int .i64 n ∧ Bc1 w wr (.slice a0 L.length c0) (.slice a1 R.length c1) L n) (fun i _ => L.length - (intOf i).toNat)
  case atStart =>
    refine ⟨0, Nat.zero_le _, rfl, ⟨?_, ?_, ?_⟩, none, 0, ?_, World.ownsRow_nil _ _ _ _⟩
    · exact (((Below.refl _ _).alloc (Nat.le_refl _) _).alloc (by first | omega | (simp; done) | (simp; omega)) _).alloc (by first | omega | (simp; done) | (simp; omega)) _
    · rw [Below.heap_alloc _ _ _ (by first | omega | (simp; done) | (simp; omega)), Below.heap_alloc _ _ _ (by first | omega | (simp; done) | (simp; omega))]; exact heap_at _ rfl
    · rw [Below.heap_alloc _ _ _ (by first | omega | (simp; done) | (simp; omega))]; exact heap_at (w := World.alloc _ _) _ (by simp)
    · exact heap_at (w := World.alloc _ _) _ (by simp)
  case round =>
    obtain ⟨n, hnX, rfl, hB0, a, cap, hh3, hown⟩ := hrel
    have HR := Lib.hid hB0
    have HO := Lib.hid hown
    have H3 := Lib.hid hh3
    obtain ⟨hb, hh0, hh1⟩ := hB0
    have k0 := blk_cell hh0 0
    have k1 := blk_cell hh0 1
    have f3 := blk_free hh3 0
    have c3 := blk_cell hh3 0
    have l3 := lt_of_block hh3
    simp at k0 k1 c3
    rcases (show n < L.length ∨ L.length = n by omega) with hlt | heq
    · have hlt' : (n : Int) < (L.length : Int) := by omega
      obtain ⟨b0, o0, rfl, hb0, q⟩ := P.out (by intro h; rw [h] at hlt; simp at hlt)
      obtain ⟨x, hx⟩ : ∃ x, x = L.getD n Lf.zero := ⟨_, rfl⟩
      have HX := Lib.hid hx
      have hold : ∀ j, j < 6 → wr.cell? ⟨b0, o0 + n * 6 + j, none⟩ = x.cells[j]? := fun j hj => by
        rw [hb.cell (p := ⟨b0, o0 + n * 6 + j, none⟩) hb0, hx]; exact q n j hlt hj
      have a0 := hold 0 (by omega)
      have a1 := hold 1 (by omega)
      have a2 := hold 2 (by omega)
      have a3 := hold 3 (by omega)
      have a4 := hold 4 (by omega)
      have a5 := hold 5 (by omega)
      clear hold hx q
      obtain ⟨y0, y1, y2, y3, y4, y5⟩ := x
      simp only [Lf.cells, List.getElem?_cons_zero, List.getElem?_cons_succ, Nat.add_zero] at a0 a1 a2 a3 a4 a5
      have lb := cell_lt a0
      have nb : (Value.slice a n cap).ownBlock ≠ some b0 := by intro h; have := (hown.lt _ h).1; omega
      have n0 : (Value.slice a n cap).ownBlock ≠ some w.heap.size := by intro h; have := (hown.lt _ h).1; omega
      have n3 : (Value.slice a n cap).ownBlock ≠ some (w.heap.size + 1 + 1) := by intro h; have := (hown.lt _ h).1; omega
      have p0 : (0 : Int) ≤ (n : Int) := by omega
      have ff3 := free_alloc f3 l3
      clear hb hh0 hh1 hh3 hown
      go_wp2_with fail
      go_region_law ((refine step_append_lies _ (by rfl) _ _ 22 (by rfl) (w.heap.size + 3) 44 i0 (.agg #[.int .i64 0, .int .i64 0, .int .i64 0, .int .i64 0, .int .i64 0, .int .i64 0]) 6 48 Try.underlying22 ji ji0 ji1 ji2 rfl (by decide) (.slice a n cap) n _ (by rfl) ((HO.out.alloc _).drew) ⟨wr.heap.size, 0, none⟩ 1 1 (Lf.cells ⟨y0, y1, y2, y3, y4, y5⟩) (by rfl) (by rfl) (World.news_of_block (cs := #[.int .i64 y0, .int .i64 y1, .int .i64 y2, .int .i64 y3, .int .i64 y4, .int .i64 y5]) (t := 44) (fr := (0, 0)) (heap_alloc_new wr _)) (by simp [Lf.cells, Value.oneCell']) (by omega) (by unfold maxLen; omega) (by omega) (by simp; omega) (wr.heap.size + 1) (by simp) ?_; intro gg capg w1 hown1 hgrow hat hltg; have d3 := hgrow.cell_far ⟨w.heap.size + 1 + 1, 0, none⟩ (by simp; omega) (Ne.symm n3); have g3 := hgrow.frozen_far ⟨w.heap.size + 1 + 1, 0, none⟩ (by simp; omega) (Ne.symm n3); simp [ff3] at g3; simp at d3; have sz1 : w.heap.size + 1 + 1 < w1.heap.size := (by have := hgrow.size; simp at this; omega)))
      all_goals
        have S := Lib.hid (Bc1_step (nw := ⟨y0, y1, y2, y3, y4, y5⟩) HR.out H3.out HO.out (((Below.refl _ _).alloc (Nat.le_refl _) _).drew) hgrow hown1 hlt HX.out)
        clear hown1 hgrow d3 g3 hat
        go_wp2
        go_roundw
        case rel => exact ⟨n + 1, by omega, by go_num, S.out⟩
        case measure => simp [intOf]; omega
    · have hle : ¬ (n : Int) < (L.length : Int) := by omega
      obtain ⟨M, hM⟩ : ∃ M, M = wr.heap.size := ⟨_, rfl⟩
      have HR2 : Hid (Bc2 w wr (.slice a0 L.length c0) (.slice a1 R.length c1) L R M (.slice a L.length cap) 0) := by
        rw [← heq] at hown hh3
        refine ⟨HR.out, by omega, by omega, fun b hb => ?_, ?_, none, 0, hh3, World.ownsRow_nil _ _ _ _⟩
        · have := hown.lt b hb; omega
        · rw [List.take_of_length_le (by simp)] at hown; exact hown
      clear hb hh0 hh1 hh3 hown HO H3 HR hM
      go_wp2_with fail
      go_loopw [5] (fun k wr => ∃ n : Nat, n ≤ R.length ∧ k = .int .i64 n ∧ Bc2 w wr (.slice a0 L.length c0) (.slice a1 R.length c1) L R M (.slice a L.length cap) n) (fun i _ => R.length - (intOf i).toNat)
      case atStart => exact ⟨0, Nat.zero_le _, rfl, HR2.out⟩
      case round =>
        clear HR2
        obtain ⟨n, hnX, rfl, hB0, hM1, hM2, hs1, ho1, a', cap', hh3, hown⟩ := hrel
        have HR := Lib.hid hB0
        have HO := Lib.hid hown
        have HO1 := Lib.hid ho1
        have HS1 := Lib.hid hs1
        have H3 := Lib.hid hh3
        obtain ⟨hb, hh0, hh1⟩ := hB0
        have k0 := blk_cell hh0 0
        have k1 := blk_cell hh0 1
        have f3 := blk_free hh3 1
        have c3 := blk_cell hh3 1
        have c2 := blk_cell hh3 0
        have l3 := lt_of_block hh3
        simp at k0 k1 c2 c3
        rcases (show n < R.length ∨ R.length = n by omega) with hlt | heq2
        · have hlt' : (n : Int) < (R.length : Int) := by omega
          obtain ⟨b0, o0, rfl, hb0, q⟩ := P'.out (by intro h; rw [h] at hlt; simp at hlt)
          obtain ⟨x, hx⟩ : ∃ x, x = R.getD n Rq.zero := ⟨_, rfl⟩
          have HX := Lib.hid hx
          have hold : ∀ j, j < 5 → wr.cell? ⟨b0, o0 + n * 5 + j, none⟩ = x.cells[j]? := fun j hj => by
            rw [hb.cell (p := ⟨b0, o0 + n * 5 + j, none⟩) hb0, hx]; exact q n j hlt hj
          have a0 := hold 0 (by omega)
          have a1 := hold 1 (by omega)
          have a2 := hold 2 (by omega)
          have a3 := hold 3 (by omega)
          have a4 := hold 4 (by omega)
          clear hold hx q
          obtain ⟨y0, y1, y2, y3, y4⟩ := x
          simp only [Rq.cells, List.getElem?_cons_zero, List.getElem?_cons_succ, Nat.add_zero] at a0 a1 a2 a3 a4
          have lb := cell_lt a0
          have nb : (Value.slice a' n cap').ownBlock ≠ some b0 := by intro h; have := (hown.lt _ h).1; omega
          have n0 : (Value.slice a' n cap').ownBlock ≠ some w.heap.size := by intro h; have := (hown.lt _ h).1; omega
          have n3 : (Value.slice a' n cap').ownBlock ≠ some (w.heap.size + 1 + 1) := by intro h; have := (hown.lt _ h).1; omega
          have p0 : (0 : Int) ≤ (n : Int) := by omega
          have ff3 := free_alloc f3 l3
          clear hb hh0 hh1 hh3 hown ho1 hs1
          go_wp2_with fail
          go_region_law ((refine step_append_lies _ (by rfl) _ _ 23 (by rfl) M 31 i1 (.agg #[.int .i64 0, .int .i64 0, .int .i64 0, .int .i64 0, .int .i64 0]) 5 40 Try.underlying23 ki ki0 ki1 ki2 rfl (by decide) (.slice a' n cap') n _ (by rfl) ((HO.out.alloc _).drew) ⟨wr.heap.size, 0, none⟩ 1 1 (Rq.cells ⟨y0, y1, y2, y3, y4⟩) (by rfl) (by rfl) (World.news_of_block (cs := #[.int .i64 y0, .int .i64 y1, .int .i64 y2, .int .i64 y3, .int .i64 y4]) (t := 31) (fr := (0, 0)) (heap_alloc_new wr _)) (by simp [Rq.cells, Value.oneCell']) (by omega) (by unfold maxLen; omega) (by omega) (by simp; omega) (wr.heap.size + 1) (by simp) ?_; intro gg capg w1 hown1 hgrow hat hltg; have d3 := hgrow.cell_far ⟨w.heap.size + 1 + 1, 1, none⟩ (by simp; omega) (Ne.symm n3); have g3 := hgrow.frozen_far ⟨w.heap.size + 1 + 1, 1, none⟩ (by simp; omega) (Ne.symm n3); simp [ff3] at g3; simp at d3; have sz1 : w.heap.size + 1 + 1 < w1.heap.size := (by have := hgrow.size; simp at this; omega)))
          all_goals
            have S := Lib.hid (Bc2_step (nw := ⟨y0, y1, y2, y3, y4⟩) HR.out hM1 hM2 HS1.out HO1.out H3.out HO.out (((Below.refl _ _).alloc (Nat.le_refl _) _).drew) hgrow hown1 hlt HX.out)
            clear hown1 hgrow d3 g3 hat
            go_wp2
            go_roundw
            case rel => exact ⟨n + 1, by omega, by go_num, S.out⟩
            case measure => simp [intOf]; omega
        · have hle2 : ¬ (n : Int) < (R.length : Int) := by omega
          have d1 := blk_cell hh1 0
          have d2 := blk_cell hh1 1
          have g1 := blk_free hh1 0
          have g2 := blk_free hh1 1
          simp at d1 d2
          have HE2 : Hid (wr.ownsRow M 31 5 (.slice a' n cap') R.length (R.map Rq.cells).flatten) := by
            have h := HO.out
            rw [List.take_of_length_le (by simp; omega)] at h
            rw [heq2]; exact h
          have HD : Hid (∀ b, (Value.slice a L.length cap).ownBlock = some b → (Value.slice a' n cap').ownBlock ≠ some b) := fun b h1 h2 => by
            have := HS1.out b h1
            have := (HE2.out.lt b h2).1
            omega
          clear hb hh0 hh1 hh3 hown ho1 hs1
          go_wp2
          refine bodyPost_ret (v := .agg #[.slice a L.length cap, .slice a' n cap']) ?_ rfl ⟨_, _, rfl, ?_, ?_, HD.out, ?_⟩
          · simp [results, Try.results23, go_sem, *]
          · exact own_rebase (ownsRow_setCell_below (ownsRow_setCell_below HO1.out (by simp) _) (by simp) _) (by omega)
          · exact own_rebase (ownsRow_setCell_below (ownsRow_setCell_below HE2.out (by simp; omega) _) (by simp; omega) _) (by omega)
          · exact (HR.out.1.setCell (by first | omega | (simp; done) | (simp; omega)) _).setCell (by first | omega | (simp; done) | (simp; omega)) _
theorem ref_BookCopy (vl vr : Value) (L : List Lf) (R : List Rq) (w : World) (hl : RowAt w 6 vl (L.map Lf.cells)) (hr : RowAt w 5 vr (R.map Rq.cells)) (hn1 : L.length * 48 ≤ 140737488351232) (hn2 : R.length * 40 ≤ 140737488351232) :
    Calls Try.prog 23 #[.agg #[vl, vr]] w (BkPost w L R) := by
  refine (ref_BookCopyO vl vr L R w hl hr hn1 hn2).mono ?_
  rintro e w1 ⟨v1, v2, rfl, o1, o2, _, hb⟩
  exact ⟨v1, v2, rfl, RowNew_of_owns o1 (by simp) (lenb_Lf L), RowNew_of_owns o2 (by simp) (lenb_Rq R), hb⟩
end Go.Proofs.Ythngedmmeiiklaa

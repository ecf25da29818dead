/- usherref.WorldBegun: its contract. -/
import Derived.Test.YtjfnnbbnkcdbcaaBegQ
import Derived.Test.YtjfnnbbnkcdbcaaCfgR
import Derived.Test.YtjfnnbbnkcdbcaaOwn
import Derived.Deep.RegionWith
import Derived.Deep.RegionHeld3
namespace Go.Proofs.Ytjfnnbbnkcdbcaa
open Go.RowKit

def WbRel (w1 w7 wr : World) (bw : Nat) (F : Value → Array Value) (k : Nat) : Prop := (∀ b, b < w7.heap.size → b ≠ bw → wr.heap[b]? = w7.heap[b]?) ∧ w7.heap.size ≤ wr.heap.size ∧ Below w1.heap.size w1 wr ∧ ∃ (a : Option Addr) (cap : Nat), wr.heap[bw]? = some (.cells (F (.slice a k cap)) 61 (0, 0)) ∧ wr.ownsRow w7.heap.size 104 4 (.slice a k cap) k (hnils k).flatten
theorem WbRel_step {w1 w7 wr w8 : World} {bw k : Nat} {F : Value → Array Value} {a : Option Addr} {cap : Nat} {v' : Value} (hF : ∀ u v, (F u).setIfInBounds 22 v = F v) (hbw : bw < w7.heap.size) (h1b : w1.heap.size ≤ bw)
    (hag : ∀ b, b < w7.heap.size → b ≠ bw → wr.heap[b]? = w7.heap[b]?) (hsz : w7.heap.size ≤ wr.heap.size) (hb : Below w1.heap.size w1 wr) (h1 : wr.heap[bw]? = some (.cells (F (.slice a k cap)) 61 (0, 0)))
    (hown0 : wr.ownsRow w7.heap.size 104 4 (.slice a k cap) k (hnils k).flatten)
    (hown : w8.ownsRow w7.heap.size 104 4 v' (k + 1) ((hnils k).flatten ++ [.slice none 0 0, .bool false, .int .i64 0, .int .i64 0])) (hgrow : (wr.alloc (.cells #[.slice none 0 0, .bool false, .int .i64 0, .int .i64 0] 104)).grownBy w8 (Value.slice a k cap).ownBlock) :
    ∃ (a' : Option Addr) (cap' : Nat), v' = .slice a' (k + 1) cap' ∧ w8.heap[bw]? = some (.cells (F (.slice a k cap)) 61 (0, 0)) ∧ WbRel w1 w7 (w8.setCell ⟨bw, 22, none⟩ (.slice a' (k + 1) cap')) bw F (k + 1) := by
  obtain ⟨a', cap', rfl, _, hbase⟩ := owns_shape hown
  have hB : Below w7.heap.size wr w8 := (((Below.refl _ _).alloc hsz _).trans ((Below.refl _ _).grown hgrow (by simp; omega) (by
    intro r hr
    obtain ⟨_, _, e, _, hb2⟩ := owns_shape hown0
    cases a with
    | none => cases hr
    | some ad =>
      simp only [Value.slice.injEq] at e
      have := (hb2 ad e.1.symm).1
      simp only [Value.ownBlock, Option.some.injEq] at hr
      omega)))
  have h1' : w8.heap[bw]? = some (.cells (F (.slice a k cap)) 61 (0, 0)) := (hB.block _ hbw).trans h1
  refine ⟨a', cap', rfl, h1', fun b h2 h3 => ?_, ?_, ?_, a', cap', ?_, ?_⟩
  · exact (Below.heap_setCell _ _ _ _ h3).trans ((hB.block b h2).trans (hag b h2 h3))
  · have := hB.size; simp; omega
  · exact (hb.trans (hB.mono (by omega))).setCell (by show _ ≤ bw; omega) _
  · rw [blk_set h1', hF]
  · rw [hnils_succ]; exact ownsRow_setCell_below hown (by show bw < _; omega) _
theorem RowNew_but {w7 wr : World} {bw sz : Nat} {v : Value} {L : List (List Value)} (h : RowNew (bw + 1) w7 sz v L) (hag : ∀ b, b < w7.heap.size → b ≠ bw → wr.heap[b]? = w7.heap[b]?) (hs : w7.heap.size ≤ wr.heap.size) : RowNew (bw + 1) wr sz v L := by
  obtain ⟨⟨a, cap, rfl, h1, h2, h3, h4⟩, h5⟩ := h
  refine ⟨⟨a, cap, rfl, h1, h2, h3, fun hne => ?_⟩, h5⟩
  obtain ⟨b', off, rfl, h6, h7⟩ := h4 hne
  have h8 := h5 _ _ _ rfl
  simp only at h8
  refine ⟨b', off, rfl, by omega, fun i j hi hj => ?_⟩
  rw [← h7 i j hi hj]
  simp only [World.cell?, hag b' h6 (by omega)]
theorem info_health : (Try.prog.info? 104).map (fun i => (i.zero, i.size, i.bytes)) = some (some (.agg #[.slice none 0 0, .bool false, .int .i64 0, .int .i64 0]), 4, 48) := by kernel_rfl

set_option maxHeartbeats 4000000 in
set_option maxRecDepth 100000 in
theorem ref_Begun_bad (flows num den tries warm drain idle connect retries most bn bd bb ww wf wh : Int) (w : World) (h : ¬ CfMay ⟨flows, num, den, tries, warm, drain, idle, connect, retries, most, bn, bd, bb, ww, wf, wh⟩) : Calls Try.prog 20 #[.agg #[.int .i64 flows, .int .i64 num, .int .i64 den, .int .i64 tries, .int .i64 warm, .int .i64 drain, .int .i64 idle, .int .i64 connect, .int .i64 retries, .int .i64 most, .int .i64 bn, .int .i64 bd, .int .i64 bb, .int .i64 ww, .int .i64 wf, .int .i64 wh]] w fun e w' => e = .returned (.tuple #[.agg zWorld, .int .i64 2]) ∧ Below w.heap.size w w' := by
  have H := Lib.hid h
  clear h
  go_enter Try.func20, Try.ntmps20
  go_wp2_with fail
  refine (ref_Config_bad _ _ _ _ _ _ _ _ _ _ _ _ _ _ _ _ _ H.out).mono ?_
  rintro e w1 ⟨rfl, hb1⟩
  have x1 := blk_below hb1 (heap_at (w := w.alloc (.cells #[.int .i64 flows, .int .i64 num, .int .i64 den, .int .i64 tries, .int .i64 warm, .int .i64 drain, .int .i64 idle, .int .i64 connect, .int .i64 retries, .int .i64 most, .int .i64 bn, .int .i64 bd, .int .i64 bb, .int .i64 ww, .int .i64 wf, .int .i64 wh] 40)) (k := w.heap.size + 1) (.cells #[.int .i64 0, .int .i64 0, .int .i64 0, .int .i64 0, .int .i64 0, .int .i64 0, .int .i64 0, .int .i64 0, .int .i64 0, .int .i64 0, .int .i64 0, .int .i64 0, .int .i64 0, .int .i64 0, .int .i64 0, .int .i64 0, .int .i64 0, .slice none 0 0, .slice none 0 0, .slice none 0 0, .slice none 0 0, .slice none 0 0, .slice none 0 0, .int .i64 0, .int .i64 0, .slice none 0 0] 61) (by simp)) (by first | omega | (simp; done) | (simp; omega))
  have B1 := (((Below.refl w.heap.size w).alloc (Nat.le_refl _) (.cells #[.int .i64 flows, .int .i64 num, .int .i64 den, .int .i64 tries, .int .i64 warm, .int .i64 drain, .int .i64 idle, .int .i64 connect, .int .i64 retries, .int .i64 most, .int .i64 bn, .int .i64 bd, .int .i64 bb, .int .i64 ww, .int .i64 wf, .int .i64 wh] 40)).alloc (by simp) (.cells #[.int .i64 0, .int .i64 0, .int .i64 0, .int .i64 0, .int .i64 0, .int .i64 0, .int .i64 0, .int .i64 0, .int .i64 0, .int .i64 0, .int .i64 0, .int .i64 0, .int .i64 0, .int .i64 0, .int .i64 0, .int .i64 0, .int .i64 0, .slice none 0 0, .slice none 0 0, .slice none 0 0, .slice none 0 0, .slice none 0 0, .slice none 0 0, .int .i64 0, .int .i64 0, .slice none 0 0] 61)).trans (hb1.mono (by first | omega | (simp; done) | (simp; omega)))
  clear hb1
  go_wp2_with (refine wpList_store_row rfl 61 (.tmp 2) (.tmp 11) rfl (w.heap.size + 1) zWorld rfl rfl 61 zWorld x1 (by kernel_rfl) rfl (one_wArr _ _ _ _ _ _ _ _ _ _ _ _ _ _ _ _ _ _ _ _ _ _ _ _ _ _) ?_)
  refine bodyPost_ret (v := .tuple #[.agg zWorld, .int .i64 2]) ?_ rfl ?_
  rotate_left
  · exact ⟨rfl, setRow_below B1 (by omega)⟩
  exact results2_cell_row Try.results20 _ _ (w.heap.size + 1) 61 zWorld (0, 0) _ _ rfl rfl (setRow_block x1) Try.underlying61 rfl (by kernel_rfl)

set_option maxHeartbeats 8000000 in
set_option maxRecDepth 100000 in
theorem ref_Begun_ok (num den tries warm drain idle connect retries most bn bd bb ww wf wh : Int) (N : Nat) (w : World) (h : CfMay ⟨N, num, den, tries, warm, drain, idle, connect, retries, most, bn, bd, bb, ww, wf, wh⟩) : Calls Try.prog 20 #[.agg #[.int .i64 (N : Int), .int .i64 num, .int .i64 den, .int .i64 tries, .int .i64 warm, .int .i64 drain, .int .i64 idle, .int .i64 connect, .int .i64 retries, .int .i64 most, .int .i64 bn, .int .i64 bd, .int .i64 bb, .int .i64 ww, .int .i64 wf, .int .i64 wh]] w (BegPost w num den tries warm drain idle connect retries most bn bd bb ww wf wh N) := by
  have H := Lib.hid h
  have HN : Hid (1 ≤ N ∧ N ≤ 40) := by
    obtain ⟨⟨_, _, hf1, hf2, _⟩, _, _⟩ := h
    simp only at hf1 hf2
    exact ⟨by omega, by omega⟩
  have HBd : Hid (BudMay bn bd bb) := h.2.1
  obtain ⟨i0, ji, ji0, ji1, ji2⟩ := info_parts info_health
  clear h
  go_enter Try.func20, Try.ntmps20
  go_wp2_with fail
  refine (ref_Config_ok _ _ _ _ _ _ _ _ _ _ _ _ _ _ _ _ _ H.out).mono ?_
  rintro e w1 ⟨rfl, hb1⟩
  have x0' := blk_below hb1 ((Below.heap_alloc (w := w.alloc (.cells #[.int .i64 (N : Int), .int .i64 num, .int .i64 den, .int .i64 tries, .int .i64 warm, .int .i64 drain, .int .i64 idle, .int .i64 connect, .int .i64 retries, .int .i64 most, .int .i64 bn, .int .i64 bd, .int .i64 bb, .int .i64 ww, .int .i64 wf, .int .i64 wh] 40)) (.cells #[.int .i64 0, .int .i64 0, .int .i64 0, .int .i64 0, .int .i64 0, .int .i64 0, .int .i64 0, .int .i64 0, .int .i64 0, .int .i64 0, .int .i64 0, .int .i64 0, .int .i64 0, .int .i64 0, .int .i64 0, .int .i64 0, .int .i64 0, .slice none 0 0, .slice none 0 0, .slice none 0 0, .slice none 0 0, .slice none 0 0, .slice none 0 0, .int .i64 0, .int .i64 0, .slice none 0 0] 61) _ (by simp)).trans (heap_at (w := w) (.cells #[.int .i64 (N : Int), .int .i64 num, .int .i64 den, .int .i64 tries, .int .i64 warm, .int .i64 drain, .int .i64 idle, .int .i64 connect, .int .i64 retries, .int .i64 most, .int .i64 bn, .int .i64 bd, .int .i64 bb, .int .i64 ww, .int .i64 wf, .int .i64 wh] 40) rfl)) (by first | omega | (simp; done) | (simp; omega))
  have x1' := blk_below hb1 (heap_at (w := w.alloc (.cells #[.int .i64 (N : Int), .int .i64 num, .int .i64 den, .int .i64 tries, .int .i64 warm, .int .i64 drain, .int .i64 idle, .int .i64 connect, .int .i64 retries, .int .i64 most, .int .i64 bn, .int .i64 bd, .int .i64 bb, .int .i64 ww, .int .i64 wf, .int .i64 wh] 40)) (k := w.heap.size + 1) (.cells #[.int .i64 0, .int .i64 0, .int .i64 0, .int .i64 0, .int .i64 0, .int .i64 0, .int .i64 0, .int .i64 0, .int .i64 0, .int .i64 0, .int .i64 0, .int .i64 0, .int .i64 0, .int .i64 0, .int .i64 0, .int .i64 0, .int .i64 0, .slice none 0 0, .slice none 0 0, .slice none 0 0, .slice none 0 0, .slice none 0 0, .slice none 0 0, .int .i64 0, .int .i64 0, .slice none 0 0] 61) (by simp)) (by first | omega | (simp; done) | (simp; omega))
  have B0 := Lib.hid ((((Below.refl w.heap.size w).alloc (Nat.le_refl _) (.cells #[.int .i64 (N : Int), .int .i64 num, .int .i64 den, .int .i64 tries, .int .i64 warm, .int .i64 drain, .int .i64 idle, .int .i64 connect, .int .i64 retries, .int .i64 most, .int .i64 bn, .int .i64 bd, .int .i64 bb, .int .i64 ww, .int .i64 wf, .int .i64 wh] 40)).alloc (by simp) (.cells #[.int .i64 0, .int .i64 0, .int .i64 0, .int .i64 0, .int .i64 0, .int .i64 0, .int .i64 0, .int .i64 0, .int .i64 0, .int .i64 0, .int .i64 0, .int .i64 0, .int .i64 0, .int .i64 0, .int .i64 0, .int .i64 0, .int .i64 0, .slice none 0 0, .slice none 0 0, .slice none 0 0, .slice none 0 0, .slice none 0 0, .slice none 0 0, .int .i64 0, .int .i64 0, .slice none 0 0] 61)).trans (hb1.mono (by first | omega | (simp; done) | (simp; omega))))
  have d0 := blk_cell x0' 0
  have d1 := blk_cell x0' 1
  have d2 := blk_cell x0' 2
  have d3 := blk_cell x0' 3
  have d4 := blk_cell x0' 4
  have d5 := blk_cell x0' 5
  have d6 := blk_cell x0' 6
  have d7 := blk_cell x0' 7
  have d8 := blk_cell x0' 8
  have d9 := blk_cell x0' 9
  have d10 := blk_cell x0' 10
  have d11 := blk_cell x0' 11
  have d12 := blk_cell x0' 12
  have d13 := blk_cell x0' 13
  have d14 := blk_cell x0' 14
  have d15 := blk_cell x0' 15
  simp only [List.getElem?_toArray, List.getElem?_cons_succ, List.getElem?_cons_zero] at d0 d1 d2 d3 d4 d5 d6 d7 d8 d9 d10 d11 d12 d13 d14 d15
  have x0 := Lib.hid x0'
  have x1 := Lib.hid x1'
  have m0 : w.heap.size < w1.heap.size := lt_of_block x0'
  have m1 : w.heap.size + 1 < w1.heap.size := lt_of_block x1'
  clear x0' x1' hb1
  have dz0 : ((w1.alloc (.cells #[.int .i64 0, .int .i64 0, .int .i64 0, .int .i64 0, .int .i64 0, .int .i64 0, .int .i64 0, .int .i64 0, .int .i64 0, .int .i64 0, .int .i64 0, .int .i64 0, .int .i64 0, .int .i64 0, .int .i64 0, .int .i64 0, .int .i64 0, .slice none 0 0, .slice none 0 0, .slice none 0 0, .slice none 0 0, .slice none 0 0, .slice none 0 0, .int .i64 0, .int .i64 0, .slice none 0 0] 61)).setRow w1.heap.size (wArr (N : Int) num den tries warm drain idle connect retries most bn bd bb ww wf wh (.slice none 0 0) (.slice none 0 0) 0 (.slice none 0 0))).cell? ⟨w.heap.size, 0, none⟩ = some (.int .i64 (N : Int)) := (cell_setRow_other _ _ _ _ (by show w.heap.size ≠ _; omega)).trans (cell_alloc _ d0)
  go_wp2_with (refine wpList_store_row rfl 61 (.tmp 5) (.tmp 14) rfl w1.heap.size (wArr (N : Int) num den tries warm drain idle connect retries most bn bd bb ww wf wh (.slice none 0 0) (.slice none 0 0) 0 (.slice none 0 0)) rfl rfl 61 zWorld (heap_at _ rfl) (by kernel_rfl) rfl (one_wArr _ _ _ _ _ _ _ _ _ _ _ _ _ _ _ _ _ _ _ _ _ _ _ _ _ _) ?_)
  clear d0 d1 d2 d3 d4 d5 d6 d7 d8 d9 d10 d11 d12 d13 d14 d15 dz0
  obtain ⟨bw, hS1⟩ : ∃ bw, bw = w1.heap.size := ⟨_, rfl⟩
  rw [← hS1]
  refine (ref_Tabled_new N _ HN.out.1 HN.out.2).mono ?_
  rintro e w2 ⟨vt, rfl, R2, hb2⟩
  have hs2 := hb2.size
  simp [World.setRow] at hs2
  have KB : Below w1.heap.size w1 w2 := (setRow_below ((Below.refl w1.heap.size w1).alloc (Nat.le_refl _) _) (by omega)).trans (hb2.mono (by simp [World.setRow]))
  have xw : w2.heap[bw]? = some (.cells (wArr (N : Int) num den tries warm drain idle connect retries most bn bd bb ww wf wh (.slice none 0 0) (.slice none 0 0) 0 (.slice none 0 0)) 61 (0, 0)) := blk_below hb2 (setRow_block (heap_at (w := w1) _ hS1)) (by simp [World.setRow]; omega)
  have R2' := Lib.hid (RowNew_mono (B' := bw + 1) R2 (by simp [World.setRow]; omega))
  have nb1 : w.heap.size < bw := by omega
  have nb2 : w.heap.size + 1 < bw := by omega
  have nb3 : bw < bw + 1 := by omega
  have nb6 : w1.heap.size ≤ bw := by omega
  clear hb2 R2 hS1 hs2
  obtain ⟨at1, ct1, rfl, _⟩ := RowAt_shape R2'.out.1
  rw [show (zeros N).length = N from by simp [zeros]] at R2' ⊢
  have c0 := blk_below KB x0.out m0
  have c1 := blk_below KB x1.out m1
  have C0 := Lib.hid c0
  have C1 := Lib.hid c1
  have XW := Lib.hid xw
  have K2 := Lib.hid KB
  have d10 := blk_cell c0 10
  have d11 := blk_cell c0 11
  have d12 := blk_cell c0 12
  have y17 := blk_cell xw 17
  have yf17 := blk_free xw 17
  simp only [wArr, List.getElem?_toArray, List.getElem?_cons_succ, List.getElem?_cons_zero] at d10 d11 d12 y17
  have nn0 : w.heap.size ≠ bw := by omega
  clear c0 c1 xw KB
  go_wp2_with fail
  have KA := Lib.hid (K2.out.setCell (p := ⟨bw, 17, none⟩) nb6 (.slice at1 N ct1))
  have XA := Lib.hid (blk_set (j := 17) XW.out (.slice at1 N ct1))
  have RA := Lib.hid (RowNew_setCell (p := ⟨bw, 17, none⟩) R2'.out nb3 (.slice at1 N ct1))
  generalize w2.setCell ⟨bw, 17, none⟩ (.slice at1 N ct1) = w3 at KA XA RA ⊢
  refine (ref_Filled_ok _ _ _ _ HBd.out).mono ?_
  rintro e w4 ⟨rfl, hb4⟩
  have K4 := Lib.hid (KA.out.trans (hb4.mono KA.out.size))
  have lw3 := lt_of_block XA.out
  have X4 : Hid (w4.heap[bw]? = some (.cells (wArr (N : Int) num den tries warm drain idle connect retries most bn bd bb ww wf wh (.slice at1 N ct1) (.slice none 0 0) 0 (.slice none 0 0)) 61 (0, 0))) := blk_below hb4 XA.out lw3
  have R4 := Lib.hid (RowNew_below RA.out hb4)
  have y23 := blk_cell X4.out 23
  have yf23 := blk_free X4.out 23
  simp only [wArr, List.getElem?_toArray, List.getElem?_cons_succ, List.getElem?_cons_zero] at y23
  clear hb4 d10 d11 d12 y17 yf17
  go_wp2_with fail
  have KA5 := Lib.hid (K4.out.setCell (p := ⟨bw, 23, none⟩) nb6 (.int .i64 (bb * bd)))
  have XA5 := Lib.hid (blk_set (j := 23) X4.out (.int .i64 (bb * bd)))
  have RA5 := Lib.hid (RowNew_setCell (p := ⟨bw, 23, none⟩) R4.out nb3 (.int .i64 (bb * bd)))
  generalize w4.setCell ⟨bw, 23, none⟩ (.int .i64 (bb * bd)) = w5 at KA5 XA5 RA5 ⊢
  refine (ref_WheelOf_nil 0 _).mono ?_
  rintro e w6 ⟨vl, rfl, R6, hb6⟩
  have K6 := Lib.hid (KA5.out.trans (hb6.mono KA5.out.size))
  have X6 : Hid (w6.heap[bw]? = some (.cells (wArr (N : Int) num den tries warm drain idle connect retries most bn bd bb ww wf wh (.slice at1 N ct1) (.slice none 0 0) (bb * bd) (.slice none 0 0)) 61 (0, 0))) := blk_below hb6 XA5.out (lt_of_block XA5.out)
  have R6' := Lib.hid (RowNew_below RA5.out hb6)
  have lw5 := lt_of_block XA5.out
  have L6 := Lib.hid (RowNew_mono (B' := bw + 1) R6 (by omega))
  clear R6
  obtain ⟨al1, cl1, rfl, _⟩ := RowAt_cells L6.out.1
  rw [show (nils 25).length = 25 from by simp [nils]] at L6 ⊢
  have y24 := blk_cell X6.out 24
  have yf24 := blk_free X6.out 24
  have y25 := blk_cell X6.out 25
  have yf25 := blk_free X6.out 25
  simp only [wArr, List.getElem?_toArray, List.getElem?_cons_succ, List.getElem?_cons_zero] at y24 y25
  have XF : Hid (((w6.setCell ⟨bw, 24, none⟩ (.int .i64 0)).setCell ⟨bw, 25, none⟩ (.slice al1 25 cl1)).heap[bw]? = some (.cells ((fun vh => (wArr (N : Int) num den tries warm drain idle connect retries most bn bd bb ww wf wh (.slice at1 N ct1) vh (bb * bd) (.slice al1 25 cl1))) (.slice none 0 0)) 61 (0, 0))) := blk_set (j := 25) (blk_set (j := 24) X6.out (.int .i64 0)) (.slice al1 25 cl1)
  have C6 := Lib.hid (blk_set_ne (j := 25) (u := (.slice al1 25 cl1)) (blk_set_ne (j := 24) (u := .int .i64 0) (blk_below K6.out x1.out m1) (show w.heap.size + 1 ≠ bw by omega)) (show w.heap.size + 1 ≠ bw by omega))
  have RF := Lib.hid (RowNew_setCell (p := ⟨bw, 25, none⟩) (RowNew_setCell (p := ⟨bw, 24, none⟩) R6'.out nb3 (.int .i64 0)) nb3 (.slice al1 25 cl1))
  have LF := Lib.hid (RowNew_setCell (p := ⟨bw, 25, none⟩) (RowNew_setCell (p := ⟨bw, 24, none⟩) L6.out (Nat.lt_succ_self bw) (.int .i64 0)) (Nat.lt_succ_self bw) (.slice al1 25 cl1))
  have KF := Lib.hid ((K6.out.setCell (p := ⟨bw, 24, none⟩) nb6 (.int .i64 0)).setCell (p := ⟨bw, 25, none⟩) nb6 (.slice al1 25 cl1))
  clear hb6
  go_wp2_with fail
  generalize (w6.setCell ⟨bw, 24, none⟩ (.int .i64 0)).setCell ⟨bw, 25, none⟩ (.slice al1 25 cl1) = w7 at XF C6 RF LF KF ⊢
  have lw7 := lt_of_block XF.out
  clear y24 yf24 y25 yf25
  go_loopw [6] (fun i wr => ∃ k : Nat, k ≤ 12 ∧ i = .int .i64 k ∧ WbRel w1 w7 wr bw (fun vh => (wArr (N : Int) num den tries warm drain idle connect retries most bn bd bb ww wf wh (.slice at1 N ct1) vh (bb * bd) (.slice al1 25 cl1))) k) (fun i _ => 12 - (intOf i).toNat)
  case atStart => exact ⟨0, Nat.zero_le _, rfl, fun _ _ _ => rfl, Nat.le_refl _, KF.out, none, 0, XF.out, World.ownsRow_nil _ _ _ _⟩
  case round =>
    obtain ⟨k, hk, rfl, hag, hsz, hbel, a, cap, hx, hown⟩ := hrel
    have HAG := Lib.hid hag
    have HBE := Lib.hid hbel
    have HX := Lib.hid hx
    have HOW := Lib.hid hown
    have lwr := lt_of_block hx
    have y22 := blk_cell hx 22
    simp only [wArr, List.getElem?_toArray, List.getElem?_cons_succ, List.getElem?_cons_zero] at y22
    clear hag hbel hown
    rcases (show k < 12 ∨ k = 12 by omega) with hlt | rfl
    · have hlt' : (k : Int) < 12 := by omega
      clear hx
      go_wp2_with (at_builtin; refine wpList_append_own _ rfl _ _ 54 rfl w7.heap.size 104 i0 (.agg #[.slice none 0 0, .bool false, .int .i64 0, .int .i64 0]) 4 48 Try.underlying54 ji ji0 ji1 ji2 rfl (by decide) _ k _ rfl (HOW.out.alloc _) ⟨wr.heap.size, 0, none⟩ 1 1 [.slice none 0 0, .bool false, .int .i64 0, .int .i64 0] rfl rfl (news_one [.slice none 0 0, .bool false, .int .i64 0, .int .i64 0] 104) ?c1 ?c2 ?c3 ?c4 ?_)
      case c1 => first | exact ⟨rfl, rfl, rfl⟩ | (intro u hu; simp at hu; rcases hu with rfl | rfl | rfl <;> rfl)
      case c2 => unfold maxLen; omega
      case c3 => omega
      case c4 => first | omega | (simp; omega)
      intro v' w8 hown' hgrow _
      obtain ⟨a', cap', rfl, h1', R⟩ := WbRel_step (F := (fun vh => (wArr (N : Int) num den tries warm drain idle connect retries most bn bd bb ww wf wh (.slice at1 N ct1) vh (bb * bd) (.slice al1 25 cl1)))) (fun _ _ => rfl) lw7 nb6 HAG.out hsz HBE.out HX.out HOW.out hown' hgrow
      have HR := Lib.hid R
      have z22 := blk_cell h1' 22
      have zf22 := blk_free h1' 22
      have lw8 := lt_of_block h1'
      simp only [wArr, List.getElem?_toArray, List.getElem?_cons_succ, List.getElem?_cons_zero] at z22
      clear hown' hgrow h1' R y22 lwr
      go_wp2
      go_roundw
      case rel => exact ⟨k + 1, by omega, by go_num, HR.out⟩
      case measure => simp [intOf]; omega
    · have CW := Lib.hid ((HAG.out _ (show w.heap.size + 1 < w7.heap.size by omega) (by omega)).trans C6.out)
      have RT := Lib.hid (RowNew_but RF.out HAG.out hsz)
      have RL := Lib.hid (RowNew_but LF.out HAG.out hsz)
      have RH := Lib.hid (RowNew_of_owns HOW.out (hnils_length 12) (hnils_len 12))
      clear hx
      go_wp2_with (first | (refine wpList_load_row rfl 61 (.tmp 5) rfl bw rfl 61 (wArr (N : Int) num den tries warm drain idle connect retries most bn bd bb ww wf wh (.slice at1 N ct1) (.slice a 12 cap) (bb * bd) (.slice al1 25 cl1)) (0, 0) _ HX.out Try.underlying61 rfl (by kernel_rfl) ?_) | (refine wpList_store_row rfl 61 (.tmp 2) (.tmp 41) rfl (w.heap.size + 1) (wArr (N : Int) num den tries warm drain idle connect retries most bn bd bb ww wf wh (.slice at1 N ct1) (.slice a 12 cap) (bb * bd) (.slice al1 25 cl1)) rfl rfl 61 zWorld CW.out (by kernel_rfl) rfl (one_wArr _ _ _ _ _ _ _ _ _ _ _ _ _ _ _ _ _ _ _ _ _ _ _ _ _ _) ?_))
      refine bodyPost_ret (v := .tuple #[.agg (wArr (N : Int) num den tries warm drain idle connect retries most bn bd bb ww wf wh (.slice at1 N ct1) (.slice a 12 cap) (bb * bd) (.slice al1 25 cl1)), .int .i64 0]) ?_ rfl ?_
      rotate_left
      · exact ⟨_, _, _, rfl, (RowNew_setRow RT.out (by omega) _).1, (RowNew_setRow RH.out (by omega) _).1, (RowNew_setRow RL.out (by omega) _).1, setRow_below (B0.out.trans (HBE.out.mono (by omega))) (by omega)⟩
      exact results2_cell_row Try.results20 _ _ (w.heap.size + 1) 61 (wArr (N : Int) num den tries warm drain idle connect retries most bn bd bb ww wf wh (.slice at1 N ct1) (.slice a 12 cap) (bb * bd) (.slice al1 25 cl1)) (0, 0) _ _ rfl rfl (setRow_block CW.out) Try.underlying61 rfl (by kernel_rfl)
end Go.Proofs.Ytjfnnbbnkcdbcaa

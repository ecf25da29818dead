/- core.Begin: its contract. -/
import Derived.Test.YtjfnnbbnkcdbcaaBegQ
import Derived.Test.YtjfnnbbnkcdbcaaCfgR
import Derived.Test.YtjfnnbbnkcdbcaaOwn
import Derived.Deep.RegionWith
import Derived.Deep.RegionHeld3
namespace Go.Proofs.Ytjfnnbbnkcdbcaa
open Go.RowKit

set_option maxHeartbeats 4000000 in
set_option maxRecDepth 100000 in
theorem prog_Begin_bad (flows num den tries warm drain idle connect retries most bn bd bb ww wf wh : Int) (w : World) (h : ¬ CfMay ⟨flows, num, den, tries, warm, drain, idle, connect, retries, most, bn, bd, bb, ww, wf, wh⟩) : Calls Try.prog 19 #[.agg #[.int .i64 flows, .int .i64 num, .int .i64 den, .int .i64 tries, .int .i64 warm, .int .i64 drain, .int .i64 idle, .int .i64 connect, .int .i64 retries, .int .i64 most, .int .i64 bn, .int .i64 bd, .int .i64 bb, .int .i64 ww, .int .i64 wf, .int .i64 wh]] w fun e w' => e = .returned (.tuple #[.agg zWorld, .int .i64 2]) ∧ Below w.heap.size w w' := by
  have H := Lib.hid h
  clear h
  go_enter Try.func19, Try.ntmps19
  go_wp2_with fail
  refine (prog_CCheck_bad _ _ _ _ _ _ _ _ _ _ _ _ _ _ _ _ _ H.out).mono ?_
  rintro e w1 ⟨rfl, hb1⟩
  have x1 := blk_below hb1 (heap_at (w := w.alloc (.cells #[.int .i64 flows, .int .i64 num, .int .i64 den, .int .i64 tries, .int .i64 warm, .int .i64 drain, .int .i64 idle, .int .i64 connect, .int .i64 retries, .int .i64 most, .int .i64 bn, .int .i64 bd, .int .i64 bb, .int .i64 ww, .int .i64 wf, .int .i64 wh] 40)) (k := w.heap.size + 1) (.cells #[.int .i64 0, .int .i64 0, .int .i64 0, .int .i64 0, .int .i64 0, .int .i64 0, .int .i64 0, .int .i64 0, .int .i64 0, .int .i64 0, .int .i64 0, .int .i64 0, .int .i64 0, .int .i64 0, .int .i64 0, .int .i64 0, .int .i64 0, .slice none 0 0, .slice none 0 0, .slice none 0 0, .slice none 0 0, .slice none 0 0, .slice none 0 0, .int .i64 0, .int .i64 0, .slice none 0 0] 61) (by simp)) (by first | omega | (simp; done) | (simp; omega))
  have B1 := (((Below.refl w.heap.size w).alloc (Nat.le_refl _) (.cells #[.int .i64 flows, .int .i64 num, .int .i64 den, .int .i64 tries, .int .i64 warm, .int .i64 drain, .int .i64 idle, .int .i64 connect, .int .i64 retries, .int .i64 most, .int .i64 bn, .int .i64 bd, .int .i64 bb, .int .i64 ww, .int .i64 wf, .int .i64 wh] 40)).alloc (by simp) (.cells #[.int .i64 0, .int .i64 0, .int .i64 0, .int .i64 0, .int .i64 0, .int .i64 0, .int .i64 0, .int .i64 0, .int .i64 0, .int .i64 0, .int .i64 0, .int .i64 0, .int .i64 0, .int .i64 0, .int .i64 0, .int .i64 0, .int .i64 0, .slice none 0 0, .slice none 0 0, .slice none 0 0, .slice none 0 0, .slice none 0 0, .slice none 0 0, .int .i64 0, .int .i64 0, .slice none 0 0] 61)).trans (hb1.mono (by first | omega | (simp; done) | (simp; omega)))
  clear hb1
  go_wp2_with (refine wpList_store_row rfl 61 (.tmp 2) (.tmp 10) rfl (w.heap.size + 1) zWorld rfl rfl 61 zWorld x1 (by kernel_rfl) rfl (one_wArr _ _ _ _ _ _ _ _ _ _ _ _ _ _ _ _ _ _ _ _ _ _ _ _ _ _) ?_)
  refine bodyPost_ret (v := .tuple #[.agg zWorld, .int .i64 2]) ?_ rfl ?_
  rotate_left
  · exact ⟨rfl, setRow_below B1 (by omega)⟩
  exact results2_cell_row Try.results19 _ _ (w.heap.size + 1) 61 zWorld (0, 0) _ _ rfl rfl (setRow_block x1) Try.underlying61 rfl (by kernel_rfl)

set_option maxHeartbeats 8000000 in
set_option maxRecDepth 100000 in
theorem prog_Begin_ok (num den tries warm drain idle connect retries most bn bd bb ww wf wh : Int) (N : Nat) (w : World) (h : CfMay ⟨N, num, den, tries, warm, drain, idle, connect, retries, most, bn, bd, bb, ww, wf, wh⟩) : Calls Try.prog 19 #[.agg #[.int .i64 (N : Int), .int .i64 num, .int .i64 den, .int .i64 tries, .int .i64 warm, .int .i64 drain, .int .i64 idle, .int .i64 connect, .int .i64 retries, .int .i64 most, .int .i64 bn, .int .i64 bd, .int .i64 bb, .int .i64 ww, .int .i64 wf, .int .i64 wh]] w (BegPost w num den tries warm drain idle connect retries most bn bd bb ww wf wh N) := by
  have H := Lib.hid h
  have HN : Hid (1 ≤ N ∧ N ≤ 40) := by
    obtain ⟨⟨_, _, hf1, hf2, _⟩, _, _⟩ := h
    simp only at hf1 hf2
    exact ⟨by omega, by omega⟩
  have HBd : Hid (BudMay bn bd bb) := h.2.1
  clear h
  obtain ⟨HZ, hHZ⟩ : ∃ HZ, HZ = (hnils 12).flatten.toArray := ⟨_, rfl⟩
  have hmk : ∀ W, (Instr.makeSlice 54 (.int .i64 12) (.int .i64 12)).run Try.prog W = .ok (.slice (some ⟨W.heap.size, 0, none⟩) 12 12) (W.alloc (.cells HZ 104)) := by
    intro W
    subst hHZ
    kernel_rfl
  have HHZ := Lib.hid hHZ
  clear hHZ
  go_enter Try.func19, Try.ntmps19
  go_wp2_with (go_at_call 17; refine (prog_CCheck_ok _ _ _ _ _ _ _ _ _ _ _ _ _ _ _ _ _ H.out).mono ?_; rintro e w1 ⟨rfl, hb1⟩)
  have x0' := blk_below hb1 ((Below.heap_alloc (w := w.alloc (.cells #[.int .i64 (N : Int), .int .i64 num, .int .i64 den, .int .i64 tries, .int .i64 warm, .int .i64 drain, .int .i64 idle, .int .i64 connect, .int .i64 retries, .int .i64 most, .int .i64 bn, .int .i64 bd, .int .i64 bb, .int .i64 ww, .int .i64 wf, .int .i64 wh] 40)) (.cells #[.int .i64 0, .int .i64 0, .int .i64 0, .int .i64 0, .int .i64 0, .int .i64 0, .int .i64 0, .int .i64 0, .int .i64 0, .int .i64 0, .int .i64 0, .int .i64 0, .int .i64 0, .int .i64 0, .int .i64 0, .int .i64 0, .int .i64 0, .slice none 0 0, .slice none 0 0, .slice none 0 0, .slice none 0 0, .slice none 0 0, .slice none 0 0, .int .i64 0, .int .i64 0, .slice none 0 0] 61) _ (by simp)).trans (heap_at (w := w) (.cells #[.int .i64 (N : Int), .int .i64 num, .int .i64 den, .int .i64 tries, .int .i64 warm, .int .i64 drain, .int .i64 idle, .int .i64 connect, .int .i64 retries, .int .i64 most, .int .i64 bn, .int .i64 bd, .int .i64 bb, .int .i64 ww, .int .i64 wf, .int .i64 wh] 40) rfl)) (by first | omega | (simp; done) | (simp; omega))
  have x1' := blk_below hb1 (heap_at (w := w.alloc (.cells #[.int .i64 (N : Int), .int .i64 num, .int .i64 den, .int .i64 tries, .int .i64 warm, .int .i64 drain, .int .i64 idle, .int .i64 connect, .int .i64 retries, .int .i64 most, .int .i64 bn, .int .i64 bd, .int .i64 bb, .int .i64 ww, .int .i64 wf, .int .i64 wh] 40)) (k := w.heap.size + 1) (.cells #[.int .i64 0, .int .i64 0, .int .i64 0, .int .i64 0, .int .i64 0, .int .i64 0, .int .i64 0, .int .i64 0, .int .i64 0, .int .i64 0, .int .i64 0, .int .i64 0, .int .i64 0, .int .i64 0, .int .i64 0, .int .i64 0, .int .i64 0, .slice none 0 0, .slice none 0 0, .slice none 0 0, .slice none 0 0, .slice none 0 0, .slice none 0 0, .int .i64 0, .int .i64 0, .slice none 0 0] 61) (by simp)) (by first | omega | (simp; done) | (simp; omega))
  have B0 := Lib.hid ((((Below.refl w.heap.size w).alloc (Nat.le_refl _) (.cells #[.int .i64 (N : Int), .int .i64 num, .int .i64 den, .int .i64 tries, .int .i64 warm, .int .i64 drain, .int .i64 idle, .int .i64 connect, .int .i64 retries, .int .i64 most, .int .i64 bn, .int .i64 bd, .int .i64 bb, .int .i64 ww, .int .i64 wf, .int .i64 wh] 40)).alloc (by simp) (.cells #[.int .i64 0, .int .i64 0, .int .i64 0, .int .i64 0, .int .i64 0, .int .i64 0, .int .i64 0, .int .i64 0, .int .i64 0, .int .i64 0, .int .i64 0, .int .i64 0, .int .i64 0, .int .i64 0, .int .i64 0, .int .i64 0, .int .i64 0, .slice none 0 0, .slice none 0 0, .slice none 0 0, .slice none 0 0, .slice none 0 0, .slice none 0 0, .int .i64 0, .int .i64 0, .slice none 0 0] 61)).trans (hb1.mono (by first | omega | (simp; done) | (simp; omega))))
  have d0 := blk_cell x0' 0
  have d1 := blk_cell x0' 1
  have d2 := blk_cell x0' 2
  have d3 := blk_cell x0' 3
  have d4 := blk_cell x0' 4
  have d5 := blk_cell x0' 5
  have d6 := blk_cell x0' 6
  have d7 := blk_cell x0' 7
  have d8 := blk_cell x0' 8
  have d9 := blk_cell x0' 9
  have d10 := blk_cell x0' 10
  have d11 := blk_cell x0' 11
  have d12 := blk_cell x0' 12
  have d13 := blk_cell x0' 13
  have d14 := blk_cell x0' 14
  have d15 := blk_cell x0' 15
  simp only [List.getElem?_toArray, List.getElem?_cons_succ, List.getElem?_cons_zero] at d0 d1 d2 d3 d4 d5 d6 d7 d8 d9 d10 d11 d12 d13 d14 d15
  have x0 := Lib.hid x0'
  have x1 := Lib.hid x1'
  have m0 : w.heap.size < w1.heap.size := lt_of_block x0'
  have m1 : w.heap.size + 1 < w1.heap.size := lt_of_block x1'
  clear x0' x1' hb1
  go_wp2_with fail
  refine wp_region_noPanic ?_
  refine wp_region_held_drew (S := fun w' => w'.heap[w.heap.size]? = some (.cells #[.int .i64 (N : Int), .int .i64 num, .int .i64 den, .int .i64 tries, .int .i64 warm, .int .i64 drain, .int .i64 idle, .int .i64 connect, .int .i64 retries, .int .i64 most, .int .i64 bn, .int .i64 bd, .int .i64 bb, .int .i64 ww, .int .i64 wf, .int .i64 wh] 40 (0, 0))) (by kernel_rfl) ?hb (fun hHeld => ?_)
  case hb => exact x0.out
  clear d0 d1 d2 d3 d4 d5 d6 d7 d8 d9 d10 d11 d12 d13 d14 d15
  refine wpAnyH_take (i := 0) (v := ?v0) (by simp only [List.getElem?_toArray, List.getElem?_cons_zero]; exact rfl) (by kernel_rfl) (by kernel_rfl) (by kernel_rfl) (fun _ _ _ h => h) (Or.inl ⟨by rfl, ?y0⟩) (by assumption) ?_
  case y0 => (intro w' hSw; (try dsimp only at hSw); have d0 := blk_cell hSw 0; have d1 := blk_cell hSw 1; have d2 := blk_cell hSw 2; have d3 := blk_cell hSw 3; have d4 := blk_cell hSw 4; have d5 := blk_cell hSw 5; have d6 := blk_cell hSw 6; have d7 := blk_cell hSw 7; have d8 := blk_cell hSw 8; have d9 := blk_cell hSw 9; have d10 := blk_cell hSw 10; have d11 := blk_cell hSw 11; have d12 := blk_cell hSw 12; have d13 := blk_cell hSw 13; have d14 := blk_cell hSw 14; have d15 := blk_cell hSw 15; simp only [List.getElem?_toArray, List.getElem?_cons_succ, List.getElem?_cons_zero] at d0 d1 d2 d3 d4 d5 d6 d7 d8 d9 d10 d11 d12 d13 d14 d15; go_simp; (try with_reducible rfl))
  (try simp only [Act.put, List.setIfInBounds_toArray, List.set_cons_zero, List.set_cons_succ])
  refine wpAnyH_ready (rs := [1, 3]) (by kernel_rfl) (by simp) ?_
  refine AllReadyH.cons (by simp only [List.getElem?_toArray, List.getElem?_cons_zero, List.getElem?_cons_succ]; exact rfl) (fun K hK => ?_) (AllReadyH.cons (by simp only [List.getElem?_toArray, List.getElem?_cons_zero, List.getElem?_cons_succ]; exact rfl) (fun K hK => ?_) AllReadyH.nil)
  · skip
    go_simp
    refine hK.out _ _ ?s1 (fun hHeld => ?_)
    case s1 => exact (Below.heap_alloc _ _ _ (by first | (simp; omega) | omega)).trans hHeld
    clear hK K
    (try simp only [Act.put, List.setIfInBounds_toArray, List.set_cons_zero, List.set_cons_succ])
    refine wpAnyH_take (i := 2) (v := ?v2) (by simp only [List.getElem?_toArray, List.getElem?_cons_zero, List.getElem?_cons_succ]; exact rfl) (by kernel_rfl) (by kernel_rfl) (by kernel_rfl) (fun _ _ _ h => h) (Or.inl ⟨by rfl, ?y2⟩) (by assumption) ?_
    case y2 => (intro w hSw; (try dsimp only at hSw); go_simp; (try with_reducible rfl))
    (try simp only [Act.put, List.setIfInBounds_toArray, List.set_cons_zero, List.set_cons_succ])
    refine wpAnyH_ready (rs := [3]) (by kernel_rfl) (by simp) ?_
    refine AllReadyH.cons (by simp only [List.getElem?_toArray, List.getElem?_cons_zero, List.getElem?_cons_succ]; exact rfl) (fun K hK => ?_) AllReadyH.nil
    go_simp
    refine hK.out _ _ ?s3 (fun hHeld => ?_)
    case s3 => exact (Below.heap_alloc _ _ _ (by first | (simp; omega) | omega)).trans hHeld
    clear hK K
    (try simp only [Act.put, List.setIfInBounds_toArray, List.set_cons_zero, List.set_cons_succ])
    refine wpAnyH_ready (rs := [4]) (by kernel_rfl) (by simp) ?_
    refine AllReadyH.cons (by simp only [List.getElem?_toArray, List.getElem?_cons_zero, List.getElem?_cons_succ]; exact rfl) (fun K hK => ?_) AllReadyH.nil
    rw [if_pos (by rfl)]
    refine wp_store_row 61 (.tmp 5) (.tmp 14) rfl (w1.heap.size + 1) (wArr (N : Int) num den tries warm drain idle connect retries most bn bd bb ww wf wh (.slice none 0 0) (.slice (some ⟨w1.heap.size, 0, none⟩) 12 12) 0 (.slice none 0 0)) rfl rfl 61 zWorld (heap_at (w := World.alloc (World.drew w1) _) (k := w1.heap.size + 1) _ (by simp)) (by kernel_rfl) rfl (one_wArr _ _ _ _ _ _ _ _ _ _ _ _ _ _ _ _ _ _ _ _ _ _ _ _ _ _) ?_
    refine hK.out _ _ ?s4 (fun hHeld => ?_)
    case s4 => exact setRow_ne hHeld (by omega)
    have d0 := blk_cell hHeld 0
    simp only [List.getElem?_toArray, List.getElem?_cons_zero] at d0
    clear hK K hHeld
    (try simp only [Act.put])
    refine wpAnyH_done (by kernel_rfl) ?_ _
    refine NoPanic.normal ?_
    go_wp2_with fail
    clear d0
    obtain ⟨S1, hS1⟩ : ∃ S1, S1 = w1.heap.size := ⟨_, rfl⟩
    obtain ⟨TOP, hT⟩ : ∃ TOP, TOP = w1.heap.size + 1 + 1 := ⟨_, rfl⟩
    rw [← hS1]
    refine (prog_Make_new N _ HN.out.1 HN.out.2).mono ?_
    rintro e w2 ⟨vt, rfl, R2, hb2⟩
    have hs2 := hb2.size
    simp [World.setRow] at hs2
    have KB : Below w1.heap.size w1 w2 := (setRow_below ((((Below.refl w1.heap.size w1).drew).alloc (Nat.le_refl _) _).alloc (by simp) _) (by omega)).trans (hb2.mono (by simp [World.setRow]; omega))
    have xw : w2.heap[(S1 + 1)]? = some (.cells (wArr (N : Int) num den tries warm drain idle connect retries most bn bd bb ww wf wh (.slice none 0 0) (.slice (some ⟨S1, 0, none⟩) 12 12) 0 (.slice none 0 0)) 61 (0, 0)) := blk_below hb2 (setRow_block (heap_at (w := World.alloc (World.drew w1) _) (k := S1 + 1) _ (by simp [hS1]))) (by simp [World.setRow]; omega)
    have xm : w2.heap[S1]? = some (.cells HZ 104 (0, 0)) := blk_below hb2 (setRow_ne ((Below.heap_alloc (w := World.alloc (World.drew w1) _) _ _ (by simp [hS1])).trans (heap_at (w := World.drew w1) _ hS1)) (by omega)) (by simp [World.setRow]; omega)
    have R2' := Lib.hid (RowNew_mono (B' := TOP) R2 (by simp [World.setRow]; omega))
    have nb1 : w.heap.size < (S1 + 1) := by omega
    have nb2 : w.heap.size + 1 < (S1 + 1) := by omega
    have nb3 : (S1 + 1) < TOP := by omega
    have nb4 : (S1 + 1) ≠ S1 := by omega
    have nb5 : w.heap.size + 1 < S1 := by omega
    have nb6 : w1.heap.size ≤ (S1 + 1) := by omega
    have nb7 : w.heap.size + 1 < TOP := by omega
    clear hb2 R2 hT hs2
    clear hS1
    generalize S1 + 1 = bw at *
    generalize S1 = bm at *
    obtain ⟨at1, ct1, rfl, _⟩ := RowAt_shape R2'.out.1
    rw [show (zeros N).length = N from by simp [zeros]] at R2' ⊢
    have c0 := blk_below KB x0.out m0
    have c1 := blk_below KB x1.out m1
    have C0 := Lib.hid c0
    have C1 := Lib.hid c1
    have XW := Lib.hid xw
    have XM := Lib.hid xm
    have K2 := Lib.hid KB
    have d10 := blk_cell c0 10
    have d11 := blk_cell c0 11
    have d12 := blk_cell c0 12
    have y17 := blk_cell xw 17
    have yf17 := blk_free xw 17
    simp only [wArr, List.getElem?_toArray, List.getElem?_cons_succ, List.getElem?_cons_zero] at d10 d11 d12 y17
    have nn0 : w.heap.size ≠ bw := by omega
    clear c0 c1 xw xm KB
    go_wp2_with fail
    have KA := Lib.hid (K2.out.setCell (p := ⟨bw, 17, none⟩) nb6 (.slice at1 N ct1))
    have XA := Lib.hid (blk_set (j := 17) XW.out (.slice at1 N ct1))
    have RA := Lib.hid (RowNew_setCell (p := ⟨bw, 17, none⟩) R2'.out nb3 (.slice at1 N ct1))
    have XMA := Lib.hid (blk_set_ne (j := 17) (u := (.slice at1 N ct1)) XM.out nb4.symm)
    generalize w2.setCell ⟨bw, 17, none⟩ (.slice at1 N ct1) = w3 at KA XA RA XMA ⊢
    refine (prog_Fill_ok _ _ _ _ HBd.out).mono ?_
    rintro e w4 ⟨rfl, hb4⟩
    have K4 := Lib.hid (KA.out.trans (hb4.mono KA.out.size))
    have lw3 := lt_of_block XA.out
    have X4 : Hid (w4.heap[bw]? = some (.cells (wArr (N : Int) num den tries warm drain idle connect retries most bn bd bb ww wf wh (.slice at1 N ct1) (.slice (some ⟨bm, 0, none⟩) 12 12) 0 (.slice none 0 0)) 61 (0, 0))) := blk_below hb4 XA.out lw3
    have R4 := Lib.hid (RowNew_below RA.out hb4)
    have M4 := Lib.hid (blk_below hb4 XMA.out (lt_of_block XMA.out))
    have y23 := blk_cell X4.out 23
    have yf23 := blk_free X4.out 23
    simp only [wArr, List.getElem?_toArray, List.getElem?_cons_succ, List.getElem?_cons_zero] at y23
    clear hb4 d10 d11 d12 y17 yf17
    go_wp2_with fail
    have KA5 := Lib.hid (K4.out.setCell (p := ⟨bw, 23, none⟩) nb6 (.int .i64 (bb * bd)))
    have XA5 := Lib.hid (blk_set (j := 23) X4.out (.int .i64 (bb * bd)))
    have RA5 := Lib.hid (RowNew_setCell (p := ⟨bw, 23, none⟩) R4.out nb3 (.int .i64 (bb * bd)))
    have MA5 := Lib.hid (blk_set_ne (j := 23) (u := .int .i64 (bb * bd)) M4.out nb4.symm)
    generalize w4.setCell ⟨bw, 23, none⟩ (.int .i64 (bb * bd)) = w5 at KA5 XA5 RA5 MA5 ⊢
    refine (prog_New_new 0 _ (by omega) (by omega)).mono ?_
    rintro e w6 ⟨vl, rfl, R6, hb6⟩
    have K6 := Lib.hid (KA5.out.trans (hb6.mono KA5.out.size))
    have X6 : Hid (w6.heap[bw]? = some (.cells (wArr (N : Int) num den tries warm drain idle connect retries most bn bd bb ww wf wh (.slice at1 N ct1) (.slice (some ⟨bm, 0, none⟩) 12 12) (bb * bd) (.slice none 0 0)) 61 (0, 0))) := blk_below hb6 XA5.out (lt_of_block XA5.out)
    have R6' := Lib.hid (RowNew_below RA5.out hb6)
    have M6 := Lib.hid (blk_below hb6 MA5.out (lt_of_block MA5.out))
    have lw5 := lt_of_block XA5.out
    have L6 := Lib.hid (RowNew_mono (B' := bw + 1) R6 (by omega))
    clear R6
    obtain ⟨al1, cl1, rfl, _⟩ := RowAt_cells L6.out.1
    rw [show (nils 25).length = 25 from by simp [nils]] at L6 ⊢
    have y24 := blk_cell X6.out 24
    have yf24 := blk_free X6.out 24
    have y25 := blk_cell X6.out 25
    have yf25 := blk_free X6.out 25
    simp only [wArr, List.getElem?_toArray, List.getElem?_cons_succ, List.getElem?_cons_zero] at y24 y25
    have XF : Hid (((w6.setCell ⟨bw, 24, none⟩ (.int .i64 0)).setCell ⟨bw, 25, none⟩ (.slice al1 25 cl1)).heap[bw]? = some (.cells (wArr (N : Int) num den tries warm drain idle connect retries most bn bd bb ww wf wh (.slice at1 N ct1) (.slice (some ⟨bm, 0, none⟩) 12 12) (bb * bd) (.slice al1 25 cl1)) 61 (0, 0))) := blk_set (j := 25) (blk_set (j := 24) X6.out (.int .i64 0)) (.slice al1 25 cl1)
    have C6 := Lib.hid (blk_set_ne (j := 25) (u := (.slice al1 25 cl1)) (blk_set_ne (j := 24) (u := .int .i64 0) (blk_below K6.out x1.out m1) (show w.heap.size + 1 ≠ bw by omega)) (show w.heap.size + 1 ≠ bw by omega))
    have RF := Lib.hid (RowNew_setCell (p := ⟨bw, 25, none⟩) (RowNew_setCell (p := ⟨bw, 24, none⟩) R6'.out nb3 (.int .i64 0)) nb3 (.slice al1 25 cl1))
    have LF := Lib.hid (RowNew_setCell (p := ⟨bw, 25, none⟩) (RowNew_setCell (p := ⟨bw, 24, none⟩) L6.out (Nat.lt_succ_self bw) (.int .i64 0)) (Nat.lt_succ_self bw) (.slice al1 25 cl1))
    have MF := Lib.hid (blk_set_ne (j := 25) (u := (.slice al1 25 cl1)) (blk_set_ne (j := 24) (u := .int .i64 0) M6.out nb4.symm) nb4.symm)
    have KF := Lib.hid ((K6.out.setCell (p := ⟨bw, 24, none⟩) nb6 (.int .i64 0)).setCell (p := ⟨bw, 25, none⟩) nb6 (.slice al1 25 cl1))
    clear hb6
    go_wp2_with (first | (refine wpList_load_row rfl 61 (.tmp 5) rfl bw rfl 61 (wArr (N : Int) num den tries warm drain idle connect retries most bn bd bb ww wf wh (.slice at1 N ct1) (.slice (some ⟨bm, 0, none⟩) 12 12) (bb * bd) (.slice al1 25 cl1)) (0, 0) _ XF.out Try.underlying61 rfl (by kernel_rfl) ?_) | (refine wpList_store_row rfl 61 (.tmp 2) (.tmp 34) rfl (w.heap.size + 1) (wArr (N : Int) num den tries warm drain idle connect retries most bn bd bb ww wf wh (.slice at1 N ct1) (.slice (some ⟨bm, 0, none⟩) 12 12) (bb * bd) (.slice al1 25 cl1)) rfl rfl 61 zWorld C6.out (by kernel_rfl) rfl (one_wArr _ _ _ _ _ _ _ _ _ _ _ _ _ _ _ _ _ _ _ _ _ _ _ _ _ _) ?_))
    refine bodyPost_ret (v := .tuple #[.agg (wArr (N : Int) num den tries warm drain idle connect retries most bn bd bb ww wf wh (.slice at1 N ct1) (.slice (some ⟨bm, 0, none⟩) 12 12) (bb * bd) (.slice al1 25 cl1)), .int .i64 0]) ?_ rfl ?_
    rotate_left
    · exact ⟨_, _, _, rfl, (RowNew_setRow RF.out nb7 _).1, hz_row (HHZ.out ▸ setRow_ne MF.out (by omega)), (RowNew_setRow LF.out (by omega) _).1, setRow_below (B0.out.trans (KF.out.mono (by omega))) (by omega)⟩
    exact results2_cell_row Try.results19 _ _ (w.heap.size + 1) 61 (wArr (N : Int) num den tries warm drain idle connect retries most bn bd bb ww wf wh (.slice at1 N ct1) (.slice (some ⟨bm, 0, none⟩) 12 12) (bb * bd) (.slice al1 25 cl1)) (0, 0) _ _ rfl rfl (setRow_block C6.out) Try.underlying61 rfl (by kernel_rfl)
  · skip
    go_simp
    refine hK.out _ _ ?s3b (fun hHeld => ?_)
    case s3b => exact (Below.heap_alloc _ _ _ (by first | (simp; omega) | omega)).trans hHeld
    clear hK K
    (try simp only [Act.put, List.setIfInBounds_toArray, List.set_cons_zero, List.set_cons_succ])
    refine wpAnyH_ready (rs := [1]) (by kernel_rfl) (by simp) ?_
    refine AllReadyH.cons (by simp only [List.getElem?_toArray, List.getElem?_cons_zero, List.getElem?_cons_succ]; exact rfl) (fun K hK => ?_) AllReadyH.nil
    go_simp
    refine hK.out _ _ ?s1b (fun hHeld => ?_)
    case s1b => exact (Below.heap_alloc _ _ _ (by first | (simp; omega) | omega)).trans hHeld
    clear hK K
    (try simp only [Act.put, List.setIfInBounds_toArray, List.set_cons_zero, List.set_cons_succ])
    refine wpAnyH_take (i := 2) (v := ?v2b) (by simp only [List.getElem?_toArray, List.getElem?_cons_zero, List.getElem?_cons_succ]; exact rfl) (by kernel_rfl) (by kernel_rfl) (by kernel_rfl) (fun _ _ _ h => h) (Or.inl ⟨by rfl, ?y2b⟩) (by assumption) ?_
    case y2b => (intro w hSw; (try dsimp only at hSw); go_simp; (try with_reducible rfl))
    (try simp only [Act.put, List.setIfInBounds_toArray, List.set_cons_zero, List.set_cons_succ])
    refine wpAnyH_ready (rs := [4]) (by kernel_rfl) (by simp) ?_
    refine AllReadyH.cons (by simp only [List.getElem?_toArray, List.getElem?_cons_zero, List.getElem?_cons_succ]; exact rfl) (fun K hK => ?_) AllReadyH.nil
    rw [if_pos (by rfl)]
    refine wp_store_row 61 (.tmp 5) (.tmp 14) rfl (w1.heap.size) (wArr (N : Int) num den tries warm drain idle connect retries most bn bd bb ww wf wh (.slice none 0 0) (.slice (some ⟨w1.heap.size + 1, 0, none⟩) 12 12) 0 (.slice none 0 0)) rfl rfl 61 zWorld ((Below.heap_alloc (w := World.alloc (World.drew w1) _) _ _ (by simp)).trans (heap_at (w := World.drew w1) _ rfl)) (by kernel_rfl) rfl (one_wArr _ _ _ _ _ _ _ _ _ _ _ _ _ _ _ _ _ _ _ _ _ _ _ _ _ _) ?_
    refine hK.out _ _ ?s4b (fun hHeld => ?_)
    case s4b => exact setRow_ne hHeld (by omega)
    have d0 := blk_cell hHeld 0
    simp only [List.getElem?_toArray, List.getElem?_cons_zero] at d0
    clear hK K hHeld
    (try simp only [Act.put])
    refine wpAnyH_done (by kernel_rfl) ?_ _
    refine NoPanic.normal ?_
    go_wp2_with fail
    clear d0
    obtain ⟨S1, hS1⟩ : ∃ S1, S1 = w1.heap.size := ⟨_, rfl⟩
    obtain ⟨TOP, hT⟩ : ∃ TOP, TOP = w1.heap.size + 1 + 1 := ⟨_, rfl⟩
    rw [← hS1]
    refine (prog_Make_new N _ HN.out.1 HN.out.2).mono ?_
    rintro e w2 ⟨vt, rfl, R2, hb2⟩
    have hs2 := hb2.size
    simp [World.setRow] at hs2
    have KB : Below w1.heap.size w1 w2 := (setRow_below ((((Below.refl w1.heap.size w1).drew).alloc (Nat.le_refl _) _).alloc (by simp) _) (by omega)).trans (hb2.mono (by simp [World.setRow]; omega))
    have xw : w2.heap[S1]? = some (.cells (wArr (N : Int) num den tries warm drain idle connect retries most bn bd bb ww wf wh (.slice none 0 0) (.slice (some ⟨(S1 + 1), 0, none⟩) 12 12) 0 (.slice none 0 0)) 61 (0, 0)) := blk_below hb2 (setRow_block ((Below.heap_alloc (w := World.alloc (World.drew w1) _) _ _ (by simp [hS1])).trans (heap_at (w := World.drew w1) _ hS1))) (by simp [World.setRow]; omega)
    have xm : w2.heap[(S1 + 1)]? = some (.cells HZ 104 (0, 0)) := blk_below hb2 (setRow_ne (heap_at (w := World.alloc (World.drew w1) _) (k := S1 + 1) _ (by simp [hS1])) (by omega)) (by simp [World.setRow]; omega)
    have R2' := Lib.hid (RowNew_mono (B' := TOP) R2 (by simp [World.setRow]; omega))
    have nb1 : w.heap.size < S1 := by omega
    have nb2 : w.heap.size + 1 < S1 := by omega
    have nb3 : S1 < TOP := by omega
    have nb4 : S1 ≠ (S1 + 1) := by omega
    have nb5 : w.heap.size + 1 < (S1 + 1) := by omega
    have nb6 : w1.heap.size ≤ S1 := by omega
    have nb7 : w.heap.size + 1 < TOP := by omega
    clear hb2 R2 hT hs2
    clear hS1
    generalize S1 + 1 = bm at *
    generalize S1 = bw at *
    obtain ⟨at1, ct1, rfl, _⟩ := RowAt_shape R2'.out.1
    rw [show (zeros N).length = N from by simp [zeros]] at R2' ⊢
    have c0 := blk_below KB x0.out m0
    have c1 := blk_below KB x1.out m1
    have C0 := Lib.hid c0
    have C1 := Lib.hid c1
    have XW := Lib.hid xw
    have XM := Lib.hid xm
    have K2 := Lib.hid KB
    have d10 := blk_cell c0 10
    have d11 := blk_cell c0 11
    have d12 := blk_cell c0 12
    have y17 := blk_cell xw 17
    have yf17 := blk_free xw 17
    simp only [wArr, List.getElem?_toArray, List.getElem?_cons_succ, List.getElem?_cons_zero] at d10 d11 d12 y17
    have nn0 : w.heap.size ≠ bw := by omega
    clear c0 c1 xw xm KB
    go_wp2_with fail
    have KA := Lib.hid (K2.out.setCell (p := ⟨bw, 17, none⟩) nb6 (.slice at1 N ct1))
    have XA := Lib.hid (blk_set (j := 17) XW.out (.slice at1 N ct1))
    have RA := Lib.hid (RowNew_setCell (p := ⟨bw, 17, none⟩) R2'.out nb3 (.slice at1 N ct1))
    have XMA := Lib.hid (blk_set_ne (j := 17) (u := (.slice at1 N ct1)) XM.out nb4.symm)
    generalize w2.setCell ⟨bw, 17, none⟩ (.slice at1 N ct1) = w3 at KA XA RA XMA ⊢
    refine (prog_Fill_ok _ _ _ _ HBd.out).mono ?_
    rintro e w4 ⟨rfl, hb4⟩
    have K4 := Lib.hid (KA.out.trans (hb4.mono KA.out.size))
    have lw3 := lt_of_block XA.out
    have X4 : Hid (w4.heap[bw]? = some (.cells (wArr (N : Int) num den tries warm drain idle connect retries most bn bd bb ww wf wh (.slice at1 N ct1) (.slice (some ⟨bm, 0, none⟩) 12 12) 0 (.slice none 0 0)) 61 (0, 0))) := blk_below hb4 XA.out lw3
    have R4 := Lib.hid (RowNew_below RA.out hb4)
    have M4 := Lib.hid (blk_below hb4 XMA.out (lt_of_block XMA.out))
    have y23 := blk_cell X4.out 23
    have yf23 := blk_free X4.out 23
    simp only [wArr, List.getElem?_toArray, List.getElem?_cons_succ, List.getElem?_cons_zero] at y23
    clear hb4 d10 d11 d12 y17 yf17
    go_wp2_with fail
    have KA5 := Lib.hid (K4.out.setCell (p := ⟨bw, 23, none⟩) nb6 (.int .i64 (bb * bd)))
    have XA5 := Lib.hid (blk_set (j := 23) X4.out (.int .i64 (bb * bd)))
    have RA5 := Lib.hid (RowNew_setCell (p := ⟨bw, 23, none⟩) R4.out nb3 (.int .i64 (bb * bd)))
    have MA5 := Lib.hid (blk_set_ne (j := 23) (u := .int .i64 (bb * bd)) M4.out nb4.symm)
    generalize w4.setCell ⟨bw, 23, none⟩ (.int .i64 (bb * bd)) = w5 at KA5 XA5 RA5 MA5 ⊢
    refine (prog_New_new 0 _ (by omega) (by omega)).mono ?_
    rintro e w6 ⟨vl, rfl, R6, hb6⟩
    have K6 := Lib.hid (KA5.out.trans (hb6.mono KA5.out.size))
    have X6 : Hid (w6.heap[bw]? = some (.cells (wArr (N : Int) num den tries warm drain idle connect retries most bn bd bb ww wf wh (.slice at1 N ct1) (.slice (some ⟨bm, 0, none⟩) 12 12) (bb * bd) (.slice none 0 0)) 61 (0, 0))) := blk_below hb6 XA5.out (lt_of_block XA5.out)
    have R6' := Lib.hid (RowNew_below RA5.out hb6)
    have M6 := Lib.hid (blk_below hb6 MA5.out (lt_of_block MA5.out))
    have lw5 := lt_of_block XA5.out
    have L6 := Lib.hid (RowNew_mono (B' := bw + 1) R6 (by omega))
    clear R6
    obtain ⟨al1, cl1, rfl, _⟩ := RowAt_cells L6.out.1
    rw [show (nils 25).length = 25 from by simp [nils]] at L6 ⊢
    have y24 := blk_cell X6.out 24
    have yf24 := blk_free X6.out 24
    have y25 := blk_cell X6.out 25
    have yf25 := blk_free X6.out 25
    simp only [wArr, List.getElem?_toArray, List.getElem?_cons_succ, List.getElem?_cons_zero] at y24 y25
    have XF : Hid (((w6.setCell ⟨bw, 24, none⟩ (.int .i64 0)).setCell ⟨bw, 25, none⟩ (.slice al1 25 cl1)).heap[bw]? = some (.cells (wArr (N : Int) num den tries warm drain idle connect retries most bn bd bb ww wf wh (.slice at1 N ct1) (.slice (some ⟨bm, 0, none⟩) 12 12) (bb * bd) (.slice al1 25 cl1)) 61 (0, 0))) := blk_set (j := 25) (blk_set (j := 24) X6.out (.int .i64 0)) (.slice al1 25 cl1)
    have C6 := Lib.hid (blk_set_ne (j := 25) (u := (.slice al1 25 cl1)) (blk_set_ne (j := 24) (u := .int .i64 0) (blk_below K6.out x1.out m1) (show w.heap.size + 1 ≠ bw by omega)) (show w.heap.size + 1 ≠ bw by omega))
    have RF := Lib.hid (RowNew_setCell (p := ⟨bw, 25, none⟩) (RowNew_setCell (p := ⟨bw, 24, none⟩) R6'.out nb3 (.int .i64 0)) nb3 (.slice al1 25 cl1))
    have LF := Lib.hid (RowNew_setCell (p := ⟨bw, 25, none⟩) (RowNew_setCell (p := ⟨bw, 24, none⟩) L6.out (Nat.lt_succ_self bw) (.int .i64 0)) (Nat.lt_succ_self bw) (.slice al1 25 cl1))
    have MF := Lib.hid (blk_set_ne (j := 25) (u := (.slice al1 25 cl1)) (blk_set_ne (j := 24) (u := .int .i64 0) M6.out nb4.symm) nb4.symm)
    have KF := Lib.hid ((K6.out.setCell (p := ⟨bw, 24, none⟩) nb6 (.int .i64 0)).setCell (p := ⟨bw, 25, none⟩) nb6 (.slice al1 25 cl1))
    clear hb6
    go_wp2_with (first | (refine wpList_load_row rfl 61 (.tmp 5) rfl bw rfl 61 (wArr (N : Int) num den tries warm drain idle connect retries most bn bd bb ww wf wh (.slice at1 N ct1) (.slice (some ⟨bm, 0, none⟩) 12 12) (bb * bd) (.slice al1 25 cl1)) (0, 0) _ XF.out Try.underlying61 rfl (by kernel_rfl) ?_) | (refine wpList_store_row rfl 61 (.tmp 2) (.tmp 34) rfl (w.heap.size + 1) (wArr (N : Int) num den tries warm drain idle connect retries most bn bd bb ww wf wh (.slice at1 N ct1) (.slice (some ⟨bm, 0, none⟩) 12 12) (bb * bd) (.slice al1 25 cl1)) rfl rfl 61 zWorld C6.out (by kernel_rfl) rfl (one_wArr _ _ _ _ _ _ _ _ _ _ _ _ _ _ _ _ _ _ _ _ _ _ _ _ _ _) ?_))
    refine bodyPost_ret (v := .tuple #[.agg (wArr (N : Int) num den tries warm drain idle connect retries most bn bd bb ww wf wh (.slice at1 N ct1) (.slice (some ⟨bm, 0, none⟩) 12 12) (bb * bd) (.slice al1 25 cl1)), .int .i64 0]) ?_ rfl ?_
    rotate_left
    · exact ⟨_, _, _, rfl, (RowNew_setRow RF.out nb7 _).1, hz_row (HHZ.out ▸ setRow_ne MF.out (by omega)), (RowNew_setRow LF.out (by omega) _).1, setRow_below (B0.out.trans (KF.out.mono (by omega))) (by omega)⟩
    exact results2_cell_row Try.results19 _ _ (w.heap.size + 1) 61 (wArr (N : Int) num den tries warm drain idle connect retries most bn bd bb ww wf wh (.slice at1 N ct1) (.slice (some ⟨bm, 0, none⟩) 12 12) (bb * bd) (.slice al1 25 cl1)) (0, 0) _ _ rfl rfl (setRow_block C6.out) Try.underlying61 rfl (by kernel_rfl)
end Go.Proofs.Ytjfnnbbnkcdbcaa

/- usherref.ByBackend: its contract. -/
import Derived.Test.YtjnfnmbkmgjdlaaByP
import Derived.Test.YtjnfnmbkmgjdlaaTalFault
import Derived.Deep.QuietTactic
import Derived.BigQuiet
namespace Go.Proofs.Ytjnfnmbkmgjdlaa
open Go.RowKit Go.ChangeMaps Go.Maps

set_option maxHeartbeats 4000000 in
set_option maxRecDepth 100000 in
theorem ref_By_bad (v : Value) (X : List Out) (w : World) (r : RowAt w 7 v (X.map Out.cells)) (hn : X.length * 56 ≤ 140737488351232) (hf : ∃ x ∈ X, ¬ Fits x) :
    Calls Try.prog 13 #[v] w (ByPost w [] 5) := by
  obtain ⟨a, c, rfl, _⟩ := RowAt_shape r
  have HF := Lib.hid hf
  clear hf
  go_enter Try.func13, Try.ntmps13
  go_wp2_with fail
  refine (tallyFault_bad _ X _ r hn HF.out).mono ?_
  rintro e w1 ⟨rfl, rfl⟩
  clear r
  go_wp2
  refine bodyPost_ret (v := .tuple #[.slice none 0 0, .int .i64 5]) ?_ rfl ⟨_, rfl, RowAt_nil _ _, (by repeat (first | (with_reducible exact Below.refl _ _) | (with_reducible assumption) | (with_reducible refine Below.drew ?_) | (with_reducible refine Below_drewN ?_) | (with_reducible refine Below.alloc ?_ (by first | omega | (simp; done) | (simp; omega)) _) | (with_reducible refine Below.setCell ?_ (by first | omega | (simp; done) | (simp; omega)) _) | (with_reducible refine Below.trans ?_ (Below.mono (by assumption) (by first | omega | (simp; done) | (simp; omega))))))⟩
  simp [results, Try.results13, go_sem, *]

set_option maxHeartbeats 8000000 in
set_option maxRecDepth 100000 in
theorem ref_By_fits (v : Value) (X : List Out) (ans : List Int) (code : Int) (w : World) (r : RowAt w 7 v (X.map Out.cells)) (hn : X.length * 56 ≤ 140737488351232) (hf : ∀ x ∈ X, Fits x) (hA : ByAns X ans code) :
    Calls Try.prog 13 #[v] w (ByPost w ans code) := by
  have r0 := r
  obtain ⟨a, c, rfl, _, _, _, p⟩ := RowAt_fn Out.zero r
  have HF := Lib.hid hf
  have HA := Lib.hid hA
  have HP := Lib.hid p
  have hlm : (X.length : Int) ≤ 9223372036854775807 := by omega
  clear hf hA r p
  have hmk : ∀ W, (Instr.makeSlice 31 (.int .i64 12) (.int .i64 12)).run Try.prog W = .ok (.slice (some ⟨W.heap.size, 0, none⟩) 12 12) (W.alloc (.cells #[.int .i64 0, .int .i64 0, .int .i64 0, .int .i64 0, .int .i64 0, .int .i64 0, .int .i64 0, .int .i64 0, .int .i64 0, .int .i64 0, .int .i64 0, .int .i64 0] 3)) := by
    intro W
    kernel_rfl
  go_enter Try.func13, Try.ntmps13
  go_wp2_with fail
  refine (tallyFault_ok _ X _ r0 hn HF.out).mono ?_
  rintro e w1 ⟨rfl, rfl⟩
  clear r0
  go_wp2_with fail
  go_loopw [5] (fun i wr => ∃ k : Nat, k ≤ X.length ∧ i = .int .i64 k ∧ (∀ i, i < k → InB (X.getD i Out.zero)) ∧ w = wr) (fun i _ => X.length - (intOf i).toNat)
  case atStart => exact ⟨0, Nat.zero_le _, rfl, fun i hi => by omega, rfl⟩
  case round =>
    obtain ⟨k, hk, rfl, hin, rfl⟩ := hrel
    have HIn := Lib.hid hin
    clear hin
    rcases (show k < X.length ∨ X.length = k by omega) with hlt | heq
    · have hlt' : (k : Int) < (X.length : Int) := by omega
      obtain ⟨b0, o0, rfl, hb0, q⟩ := HP.out (by intro h; rw [h] at hlt; simp at hlt)
      obtain ⟨s, hs⟩ : ∃ s, s = X.getD k Out.zero := ⟨_, rfl⟩
      have a3 := q k 3 hlt (by omega)
      rw [← hs] at a3
      have hmem : s ∈ X := by rw [hs]; simp only [List.getD, List.getElem?_eq_getElem hlt, Option.getD_some]; exact List.getElem_mem _
      have HSm := Lib.hid hmem
      have HSg := Lib.hid hs
      clear q hs hmem
      obtain ⟨kd, sl, gn, bk, rq, cd, wy⟩ := s
      simp only [Out.cells, List.getElem?_cons_zero, List.getElem?_cons_succ] at a3
      have lb := cell_lt a3
      by_cases hbk : 0 ≤ bk ∧ bk ≤ 11
      · have HIn2 : Hid (∀ i, i < k + 1 → InB (X.getD i Out.zero)) := fun i hi => by
          by_cases h : i = k
          · subst h; rw [← HSg.out]; exact hbk
          · exact HIn.out i (by omega)
        obtain ⟨g1, g2⟩ := hbk
        go_wp2_with (go_at_call 28; first | (refine (In_yes _ _ _ _ (by omega) (by omega)).mono ?_; rintro e w' ⟨rfl, rfl⟩) | (refine (In_no _ _ _ _ (by omega)).mono ?_; rintro e w' ⟨rfl, rfl⟩))
        go_roundw
        case rel => exact ⟨k + 1, by omega, by go_num, HIn2.out, by first | rfl | trivial⟩
        case measure => simp [intOf]; omega
      · have hbad : ans = [] ∧ code = 2 := by
          rcases HA.out with ⟨_, h⟩ | ⟨h, _⟩
          · exact h
          · exact absurd (h _ HSm.out) hbk
        obtain ⟨rfl, rfl⟩ := hbad
        rcases (show bk < 0 ∨ (0 ≤ bk ∧ 11 < bk) by omega) with h | ⟨h, h2⟩
        · clear hbk
          go_wp2_with (go_at_call 28; first | (refine (In_yes _ _ _ _ (by omega) (by omega)).mono ?_; rintro e w' ⟨rfl, rfl⟩) | (refine (In_no _ _ _ _ (by omega)).mono ?_; rintro e w' ⟨rfl, rfl⟩))
          refine bodyPost_ret (v := .tuple #[.slice none 0 0, .int .i64 2]) ?_ rfl ⟨_, rfl, RowAt_nil _ _, (by repeat (first | (with_reducible exact Below.refl _ _) | (with_reducible assumption) | (with_reducible refine Below.drew ?_) | (with_reducible refine Below_drewN ?_) | (with_reducible refine Below.alloc ?_ (by first | omega | (simp; done) | (simp; omega)) _) | (with_reducible refine Below.setCell ?_ (by first | omega | (simp; done) | (simp; omega)) _) | (with_reducible refine Below.trans ?_ (Below.mono (by assumption) (by first | omega | (simp; done) | (simp; omega))))))⟩
          simp [results, Try.results13, go_sem, *]
        · clear hbk
          go_wp2_with (go_at_call 28; first | (refine (In_yes _ _ _ _ (by omega) (by omega)).mono ?_; rintro e w' ⟨rfl, rfl⟩) | (refine (In_no _ _ _ _ (by omega)).mono ?_; rintro e w' ⟨rfl, rfl⟩))
          refine bodyPost_ret (v := .tuple #[.slice none 0 0, .int .i64 2]) ?_ rfl ⟨_, rfl, RowAt_nil _ _, (by repeat (first | (with_reducible exact Below.refl _ _) | (with_reducible assumption) | (with_reducible refine Below.drew ?_) | (with_reducible refine Below_drewN ?_) | (with_reducible refine Below.alloc ?_ (by first | omega | (simp; done) | (simp; omega)) _) | (with_reducible refine Below.setCell ?_ (by first | omega | (simp; done) | (simp; omega)) _) | (with_reducible refine Below.trans ?_ (Below.mono (by assumption) (by first | omega | (simp; done) | (simp; omega))))))⟩
          simp [results, Try.results13, go_sem, *]
    · have hge : ¬ (k : Int) < (X.length : Int) := by omega
      have hall : ∀ x ∈ X, InB x := by
        intro x hx
        obtain ⟨i, hi, rfl⟩ := List.mem_iff_getElem.1 hx
        have := HIn.out i (by omega)
        simpa [List.getD, hi] using this
      obtain ⟨rfl, rfl⟩ : ans = outB (cntB X X.length) ∧ code = 0 := by
        rcases HA.out with ⟨⟨x, hx, h⟩, _⟩ | ⟨_, h⟩
        · exact absurd (hall x hx) h
        · exact h
      have HAll := Lib.hid hall
      obtain ⟨N, hN⟩ : ∃ N, N = X.length := ⟨_, rfl⟩
      have HNN := Lib.hid hN
      have hz : ((outB (cntB X 0)).map fun c => Value.int .i64 c).toArray = #[.int .i64 0, .int .i64 0, .int .i64 0, .int .i64 0, .int .i64 0, .int .i64 0, .int .i64 0, .int .i64 0, .int .i64 0, .int .i64 0, .int .i64 0, .int .i64 0] := by
        rfl
      have HS : Hid ((w.alloc (.cells #[.int .i64 0, .int .i64 0, .int .i64 0, .int .i64 0, .int .i64 0, .int .i64 0, .int .i64 0, .int .i64 0, .int .i64 0, .int .i64 0, .int .i64 0, .int .i64 0] 3)).heap[w.heap.size]? = some (.cells ((outB (cntB X 0)).map fun c => Value.int .i64 c).toArray 3 (0, 0))) := by
        show _ = _
        rw [hz]; exact heap_at _ rfl
      clear hall hz hN HIn
      go_wp2_with fail
      go_loopw [7] (fun i wq => ∃ k2 : Nat, k2 ≤ X.length ∧ i = .int .i64 k2 ∧ Below w.heap.size w wq ∧ wq.heap[w.heap.size]? = some (.cells ((outB (cntB X k2)).map fun c => Value.int .i64 c).toArray 3 (0, 0))) (fun i _ => X.length - (intOf i).toNat)
      case atStart => exact ⟨0, Nat.zero_le _, rfl, (Below.refl _ _).alloc (Nat.le_refl _) _, HS.out⟩
      case round =>
        clear HS
        obtain ⟨k2, hk2, rfl, hb, hx⟩ := hrel
        have HB := Lib.hid hb
        have HX := Lib.hid hx
        have lw := lt_of_block hx
        rcases (show k2 < X.length ∨ X.length = k2 by omega) with hlt2 | heq2
        · have hlt2' : (k2 : Int) < (X.length : Int) := by omega
          obtain ⟨b0, o0, rfl, hb0, q⟩ := HP.out (by intro h; rw [h] at hlt2; simp at hlt2)
          have HQ := Lib.hid q
          obtain ⟨s, hs⟩ : ∃ s, s = X.getD k2 Out.zero := ⟨_, rfl⟩
          have x0 : wr.cell? ⟨b0, o0 + k2 * 7, none⟩ = s.cells[0]? := by rw [hb.cell (p := ⟨b0, o0 + k2 * 7, none⟩) hb0, hs]; exact HQ.out k2 0 hlt2 (by omega)
          have hmem : s ∈ X := by rw [hs]; simp only [List.getD, List.getElem?_eq_getElem hlt2, Option.getD_some]; exact List.getElem_mem _
          have HBk := Lib.hid (HAll.out s hmem)
          have HSg := Lib.hid hs
          have lb : b0 < w.heap.size := hb0
          clear q hs hmem hx hb
          obtain ⟨kd, sl, gn, bk, rq, cd, wy⟩ := s
          simp only [Out.cells, List.getElem?_cons_zero] at x0
          by_cases htk : kd = 1 ∨ kd = 5
          · have lbr : b0 < wr.heap.size := cell_lt x0
            have HTk : Hid (tkO (X.getD k2 Out.zero)) := by show tkO _; rw [← HSg.out]; exact htk
            rcases htk with rfl | rfl
            all_goals
              go_wp2_with fail
              go_loopw [8, 9] (fun t8 t9 wj => ∃ j : Nat, k2 < j ∧ j ≤ X.length ∧ t8 = .bool (lastTo X k2 j) ∧ t9 = .int .i64 j ∧ Below w.heap.size w wj ∧ wj.heap[w.heap.size]? = some (.cells ((outB (cntB X k2)).map fun c => Value.int .i64 c).toArray 3 (0, 0))) (fun _ t9 _ => X.length - (intOf t9).toNat)
              case atStart => exact ⟨k2 + 1, by omega, by omega, by rw [lastTo_start], by go_num, HB.out, HX.out⟩
              case round =>
                clear HB HX x0 lbr
                obtain ⟨j, hj1, hj2, rfl, rfl, hbj, hxj⟩ := hrel
                have HB := Lib.hid hbj
                have HX := Lib.hid hxj
                have lwj := lt_of_block hxj
                have y0 : wr.cell? ⟨b0, o0 + k2 * 7, none⟩ = (X.getD k2 Out.zero).cells[0]? := by rw [hbj.cell (p := ⟨b0, o0 + k2 * 7, none⟩) hb0]; exact HQ.out k2 0 hlt2 (by omega)
                have y1 : wr.cell? ⟨b0, o0 + k2 * 7 + 1, none⟩ = (X.getD k2 Out.zero).cells[1]? := by rw [hbj.cell (p := ⟨b0, o0 + k2 * 7 + 1, none⟩) hb0]; exact HQ.out k2 1 hlt2 (by omega)
                have y2 : wr.cell? ⟨b0, o0 + k2 * 7 + 2, none⟩ = (X.getD k2 Out.zero).cells[2]? := by rw [hbj.cell (p := ⟨b0, o0 + k2 * 7 + 2, none⟩) hb0]; exact HQ.out k2 2 hlt2 (by omega)
                have y3 : wr.cell? ⟨b0, o0 + k2 * 7 + 3, none⟩ = (X.getD k2 Out.zero).cells[3]? := by rw [hbj.cell (p := ⟨b0, o0 + k2 * 7 + 3, none⟩) hb0]; exact HQ.out k2 3 hlt2 (by omega)
                rw [← HSg.out] at y0 y1 y2 y3
                simp only [Out.cells, List.getElem?_cons_zero, List.getElem?_cons_succ] at y0 y1 y2 y3
                have lbr : b0 < wr.heap.size := cell_lt y0
                rcases (show j < X.length ∨ X.length = j by omega) with hlt3 | heq3
                · have hlt3' : (j : Int) < (X.length : Int) := by omega
                  obtain ⟨s', hs'⟩ : ∃ s', s' = X.getD j Out.zero := ⟨_, rfl⟩
                  have hold : ∀ i, i < 7 → wr.cell? ⟨b0, o0 + j * 7 + i, none⟩ = s'.cells[i]? := fun i hi => by
                    rw [hbj.cell (p := ⟨b0, o0 + j * 7 + i, none⟩) hb0, hs']; exact HQ.out j i hlt3 hi
                  have z0 := hold 0 (by omega)
                  have z1 := hold 1 (by omega)
                  have z2 := hold 2 (by omega)
                  have z3 := hold 3 (by omega)
                  have z4 := hold 4 (by omega)
                  have z5 := hold 5 (by omega)
                  have z6 := hold 6 (by omega)
                  have HTg := Lib.hid hs'
                  clear hold hs' hbj hxj
                  obtain ⟨kd', sl', gn', bk', rq', cd', wy'⟩ := s'
                  simp only [Out.cells, List.getElem?_cons_zero, List.getElem?_cons_succ, Nat.add_zero] at z0 z1 z2 z3 z4 z5 z6
                  have HBN := Lib.hid (HB.out.alloc HB.out.size (.cells #[.int .i64 kd', .int .i64 sl', .int .i64 gn', .int .i64 bk', .int .i64 rq', .int .i64 cd', .int .i64 wy'] 60))
                  have HXN : Hid ((wr.alloc (.cells #[.int .i64 kd', .int .i64 sl', .int .i64 gn', .int .i64 bk', .int .i64 rq', .int .i64 cd', .int .i64 wy'] 60)).heap[w.heap.size]? = some (.cells ((outB (cntB X k2)).map fun c => Value.int .i64 c).toArray 3 (0, 0))) := (Below.heap_alloc _ _ _ lwj).trans HX.out
                  by_cases c1 : sl' = sl
                  · subst c1
                    by_cases c2 : gn' = gn
                    · subst c2
                      rcases (show kd' = 1 ∨ kd' = 5 ∨ kd' = 6 ∨ kd' = 7 ∨ (¬ kd' = 1 ∧ ¬ kd' = 5 ∧ ¬ kd' = 6 ∧ ¬ kd' = 7) by omega) with rfl | rfl | rfl | rfl | ⟨n1, n5, n6, n7⟩
                      · skip
                        have HCl : Hid (clash X k2 j = true) := by show _ = _; unfold clash; rw [← HSg.out, ← HTg.out]; simp [tkO, enO, *]
                        have HNx : Hid (lastTo X k2 (j + 1) = false) := by show _ = _; rw [lastTo_succ X hj1, HCl.out]; simp
                        clear HCl
                        go_wp2_with fail
                        go_quiet (fail)
                        go_wp2
                        go_roundw
                        case rel => exact ⟨j + 1, by omega, by omega, by rw [HNx.out], by go_num, Below_drewN HBN.out, HXN.out⟩
                        case measure => simp [intOf]; omega
                      · skip
                        have HCl : Hid (clash X k2 j = true) := by show _ = _; unfold clash; rw [← HSg.out, ← HTg.out]; simp [tkO, enO, *]
                        have HNx : Hid (lastTo X k2 (j + 1) = false) := by show _ = _; rw [lastTo_succ X hj1, HCl.out]; simp
                        clear HCl
                        go_wp2_with fail
                        go_quiet (fail)
                        go_wp2
                        go_roundw
                        case rel => exact ⟨j + 1, by omega, by omega, by rw [HNx.out], by go_num, Below_drewN HBN.out, HXN.out⟩
                        case measure => simp [intOf]; omega
                      · skip
                        have HCl : Hid (clash X k2 j = true) := by show _ = _; unfold clash; rw [← HSg.out, ← HTg.out]; simp [tkO, enO, *]
                        have HNx : Hid (lastTo X k2 (j + 1) = false) := by show _ = _; rw [lastTo_succ X hj1, HCl.out]; simp
                        clear HCl
                        go_wp2_with fail
                        go_quiet (fail)
                        go_wp2
                        go_roundw
                        case rel => exact ⟨j + 1, by omega, by omega, by rw [HNx.out], by go_num, Below_drewN HBN.out, HXN.out⟩
                        case measure => simp [intOf]; omega
                      · skip
                        have HCl : Hid (clash X k2 j = true) := by show _ = _; unfold clash; rw [← HSg.out, ← HTg.out]; simp [tkO, enO, *]
                        have HNx : Hid (lastTo X k2 (j + 1) = false) := by show _ = _; rw [lastTo_succ X hj1, HCl.out]; simp
                        clear HCl
                        go_wp2_with fail
                        go_quiet (fail)
                        go_wp2
                        go_roundw
                        case rel => exact ⟨j + 1, by omega, by omega, by rw [HNx.out], by go_num, Below_drewN HBN.out, HXN.out⟩
                        case measure => simp [intOf]; omega
                      · skip
                        have e1 : (kd' == 1) = false := by simpa using n1
                        have e5 : (kd' == 5) = false := by simpa using n5
                        have e6 : (kd' == 6) = false := by simpa using n6
                        have e7 : (kd' == 7) = false := by simpa using n7
                        have HCl : Hid (clash X k2 j = false) := by show _ = _; unfold clash; rw [← HSg.out, ← HTg.out]; simp [tkO, enO, *]
                        have HNx : Hid (lastTo X k2 (j + 1) = lastTo X k2 j) := by show _ = _; rw [lastTo_succ X hj1, HCl.out]; simp
                        clear HCl
                        go_wp2_with fail
                        go_quiet (fail)
                        go_wp2
                        go_roundw
                        case rel => exact ⟨j + 1, by omega, by omega, by rw [HNx.out], by go_num, Below_drewN HBN.out, HXN.out⟩
                        case measure => simp [intOf]; omega
                    · skip
                      have e1 : (gn' == gn) = false := by simpa using c2
                      have HCl : Hid (clash X k2 j = false) := by show _ = _; unfold clash; rw [← HSg.out, ← HTg.out]; simp [tkO, enO, *]
                      have HNx : Hid (lastTo X k2 (j + 1) = lastTo X k2 j) := by show _ = _; rw [lastTo_succ X hj1, HCl.out]; simp
                      clear HCl
                      go_wp2_with fail
                      go_quiet (fail)
                      go_wp2
                      go_roundw
                      case rel => exact ⟨j + 1, by omega, by omega, by rw [HNx.out], by go_num, Below_drewN HBN.out, HXN.out⟩
                      case measure => simp [intOf]; omega
                  · skip
                    have e1 : (sl' == sl) = false := by simpa using c1
                    have HCl : Hid (clash X k2 j = false) := by show _ = _; unfold clash; rw [← HSg.out, ← HTg.out]; simp [tkO, enO, *]
                    have HNx : Hid (lastTo X k2 (j + 1) = lastTo X k2 j) := by show _ = _; rw [lastTo_succ X hj1, HCl.out]; simp
                    clear HCl
                    go_wp2_with fail
                    go_quiet (fail)
                    go_wp2
                    go_roundw
                    case rel => exact ⟨j + 1, by omega, by omega, by rw [HNx.out], by go_num, Below_drewN HBN.out, HXN.out⟩
                    case measure => simp [intOf]; omega
                · have hge3 : ¬ (j : Int) < (X.length : Int) := by omega
                  have hhit : hit X k2 = lastTo X k2 X.length := by unfold hit; rw [decide_eq_true HTk.out, Bool.true_and]
                  have HHit := Lib.hid hhit
                  subst heq3
                  clear hhit
                  cases hL : lastTo X k2 X.length with
                  | false =>
                    have HXN : Hid (wr.heap[w.heap.size]? = some (.cells ((outB (cntB X (k2 + 1))).map fun c => Value.int .i64 c).toArray 3 (0, 0))) := by
                      show _ = _
                      rw [outB_congr (f' := cntB X k2) (fun b => by rw [cntB_succ, HHit.out, hL]; simp)]; exact HX.out
                    clear hbj hxj
                    go_wp2
                    go_roundw
                    case rel => exact ⟨k2 + 1, by omega, by go_num, HB.out, HXN.out⟩
                    case measure => simp [intOf]; omega
                  | true =>
                    have hbr := HBk.out
                    unfold InB at hbr
                    simp only at hbr
                    obtain ⟨cn, rfl⟩ := Int.eq_ofNat_of_zero_le hbr.1
                    have hc12 : cn < 12 := by omega
                    have d0 : wr.cell? ⟨w.heap.size, cn, none⟩ = some (.int .i64 (cntB X k2 (cn : Int) : Int)) := by
                      rw [blk_cell hxj]; simp [outB, hc12]
                    have df0 := blk_free hxj cn
                    have hle := cntB_le X k2 (cn : Int)
                    obtain ⟨q, hq⟩ : ∃ q : Nat, q = cntB X k2 (cn : Int) := ⟨_, rfl⟩
                    rw [← hq] at d0 hle
                    have hci : (cn : Int) < 12 := by omega
                    have hc0 : (0 : Int) ≤ (cn : Int) := by omega
                    have hq2 : (q : Int) + 1 ≤ 9223372036854775807 := by omega
                    have HBN := Lib.hid (HB.out.setCell (p := ⟨w.heap.size, cn, none⟩) (Nat.le_refl _) (.int .i64 ((q : Int) + 1)))
                    have HXN : Hid ((wr.setCell ⟨w.heap.size, cn, none⟩ (.int .i64 ((q : Int) + 1))).heap[w.heap.size]? = some (.cells ((outB (cntB X (k2 + 1))).map fun c => Value.int .i64 c).toArray 3 (0, 0))) := by
                      show _ = _
                      rw [blk_set HX.out, hq, List.setIfInBounds_toArray, ← List.map_set, outB_set (f' := cntB X (k2 + 1)) (fun b => by rw [cntB_succ, HHit.out, hL, ← HSg.out]; simp)]
                    clear hbj hxj hq hle hbr
                    go_wp2
                    go_roundw
                    case rel => exact ⟨k2 + 1, by omega, by go_num, HBN.out, HXN.out⟩
                    case measure => simp [intOf]; omega
          · have n1 : ¬ kd = 1 := fun h => htk (Or.inl h)
            have n5 : ¬ kd = 5 := fun h => htk (Or.inr h)
            have e1 : (kd != 1) = true := by simpa using n1
            have e5 : (kd != 5) = true := by simpa using n5
            have hh : hit X k2 = false := by unfold hit; rw [← HSg.out]; simp [tkO, n1, n5]
            have HXN : Hid (wr.heap[w.heap.size]? = some (.cells ((outB (cntB X (k2 + 1))).map fun c => Value.int .i64 c).toArray 3 (0, 0))) := by
              show _ = _
              rw [outB_congr (f' := cntB X k2) (fun b => by rw [cntB_succ, hh]; simp)]; exact HX.out
            clear htk hh
            go_wp2
            go_roundw
            case rel => exact ⟨k2 + 1, by omega, by go_num, HB.out, HXN.out⟩
            case measure => simp [intOf]; omega
        · have hge2 : ¬ (k2 : Int) < (X.length : Int) := by omega
          have HR : Hid (RowAt wr 1 (.slice (some ⟨w.heap.size, 0, none⟩) 12 12) ((outB (cntB X X.length)).map fun c => [.int .i64 c])) := by
            rw [← heq2] at hx
            exact row_blk12 hx (outB_len _)
          clear hb hx
          go_wp2
          refine bodyPost_ret (v := .tuple #[.slice (some ⟨w.heap.size, 0, none⟩) 12 12, .int .i64 0]) ?_ rfl ⟨_, rfl, by first | exact HR.out | (rw [← heq]; exact HR.out), HB.out⟩
          simp [results, Try.results13, go_sem, *]
end Go.Proofs.Ytjnfnmbkmgjdlaa

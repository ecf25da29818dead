/- lines.line: the walk. -/
import Derived.Test.YtnebijdifemicaaDoorLn
namespace Go.Proofs.YtnebijdifemicaaDoor
open Go.RowKit
set_option maxHeartbeats 8000000 in
set_option maxRecDepth 100000 in
theorem prog_line {e : Ev} (he : EvCode e 0) {w : World} (hw : LnW w) : Calls Tryd.prog 13 #[.agg (Ev.cells e).toArray] w fun e' w' => e' = .returned (.string ⟨(lineB e).toArray⟩) ∧ Below w.heap.size w w' := by
  have hkd : 1 ≤ e.kind ∧ e.kind ≤ 7 := by
    rcases he with ⟨_, h⟩ | ⟨_, _, h⟩ | ⟨_, _, _, h⟩ | ⟨h, _⟩
    · omega
    · omega
    · omega
    · exact h
  have hin := evNs_in he
  have hnl := evNs_len e
  have hil := evIx_len e
  obtain ⟨k, hk⟩ := Int.eq_ofNat_of_zero_le (show 0 ≤ e.kind by omega)
  have hk8 : k < 8 := by omega
  have hk8' : (k : Int) < 8 := by omega
  have hk0 : (0 : Int) ≤ (k : Int) := by omega
  have hpos := hw.pos
  obtain ⟨E, hE⟩ : ∃ E, E = (Ev.cells e).toArray := ⟨_, rfl⟩
  rw [← hE]
  have HP := Lib.hid (show (w.alloc (.cells E 37 (0, 0))).heap[w.heap.size]? = some (.cells E 37 (0, 0)) from heap_at _ rfl)
  have hB0 := Lib.fresh_isBuilder 35 5 (w.alloc (.cells E 37 (0, 0)))
  have hbz : (w.alloc (.cells E 37 (0, 0))).heap.size = w.heap.size + 1 := by simp
  rw [hbz] at hB0
  have HB0 := Lib.hid hB0
  have HW := Lib.hid hw
  have HE := Lib.hid hE
  have HIn := Lib.hid hin
  have HIl := Lib.hid hil
  have HK := Lib.hid hk
  have y0 : ((w.alloc (.cells E 37 (0, 0))).alloc (.cells #[.pointer none, .slice none 0 0] 35 (0, 0))).cell? ⟨w.heap.size, 0, none⟩ = some (.int .i64 (k : Int)) := by
    have h1 : ((w.alloc (.cells E 37 (0, 0))).alloc (.cells #[.pointer none, .slice none 0 0] 35 (0, 0))).heap[w.heap.size]? = some (.cells E 37 (0, 0)) := (Below.heap_alloc _ _ _ (by simp)).trans HP.out
    rw [blk_cell h1 0, hE, ← hk]; rfl
  have hW2 := hw.below (((Below.refl _ _).alloc (Nat.le_refl _) (.cells E 37 (0, 0))).alloc (by simp) (.cells #[.pointer none, .slice none 0 0] 35 (0, 0)))
  have z0 := hW2.word hk8
  have HW2 := Lib.hid hW2
  clear he hin hil hw hB0 hE hk hW2
  go_enter Tryd.func13, Tryd.ntmps13
  go_wp2_with fail
  refine (prog_bStr HB0.out ⟨(wordB k).toArray⟩ ?_ ?_).mono ?_
  · have h1 := word_len k
    show 0 + (wordB k).toArray.size ≤ _
    simp; omega
  · simp
  rintro e1 w1 ⟨rfl, hB1, hb1, hk1⟩
  rw [List.nil_append, Lib.strCells_eq] at hB1
  have hbw : Below (w.heap.size + 1) (w.alloc (.cells E 37 (0, 0))) w1 := by
    refine Below.trans ?_ hb1
    exact (Below.refl _ _).alloc (by simp) _
  have hww : Below w.heap.size w w1 := ((Below.refl _ _).alloc (Nat.le_refl _) _).trans (hbw.mono (by omega))
  have hp1 := blk_below hbw HP.out (by omega)
  have l1 := hbw.size
  rw [hbz] at l1
  have HB1 := Lib.hid hB1
  have HWw := Lib.hid hww
  have HP1 := Lib.hid hp1
  have HNum := Lib.hid (prog_lnums (w := w1) (e := e) (p := w.heap.size) (by rw [← HE.out]; exact hp1) hkd)
  clear hB1 hb1 hk1 hbw hww hp1 z0 y0
  go_wp2_with fail
  refine HNum.out.mono ?_
  rintro e2 w3 ⟨a3, c3, rfl, hb3, hg3⟩
  obtain ⟨nI, hnI⟩ : ∃ n, n = (evIx e.kind).length := ⟨_, rfl⟩
  rw [← hnI]
  have hn3 : nI ≤ 3 := by rw [hnI, ← HIl.out]; exact hnl
  have hB3 := bld_below HB1.out hb3
  have HB3 := Lib.hid hB3
  have l3 := hb3.size
  have lb1 := HB1.out.lt
  have HW3 := Lib.hid (HWw.out.trans (hb3.mono HWw.out.size))
  have HP3 := Lib.hid (blk_below hb3 HP1.out (lt_of_block HP1.out))
  have HG3 := Lib.hid hg3
  have HNI := Lib.hid hnI
  clear hb3 hB3 hg3 hnI
  go_wp2
  go_loopw [14] (fun i wr => ∃ j : Nat, j ≤ nI ∧ i = .int .i64 j ∧ Lib.BuilderAt 35 5 (w.heap.size + 1) (w.heap.size + 1) (.pointer (some ⟨w.heap.size + 1, 0, none⟩)) (Lib.byteCells (wordB k ++ ((evNs e).take j).flatMap spB)) wr ∧ Below (w.heap.size + 1) w3 wr ∧ Lib.OthersKept 5 (some (w.heap.size + 1)) w3 wr) (fun i _ => nI - (intOf i).toNat)
  case atStart =>
    refine ⟨0, Nat.zero_le _, rfl, ?_, Below.refl _ _, Lib.OthersKept.refl _ _ _⟩
    rw [List.take_zero, List.flatMap_nil, List.append_nil]
    exact HB3.out
  case round =>
    obtain ⟨j, hj, rfl, hBj, hbj, hkj⟩ := hrel
    have HBj := Lib.hid hBj
    have Hbj := Lib.hid hbj
    have Hkj := Lib.hid hkj
    have lj := hbj.size
    have hWr := HW3.out.trans (hbj.mono (Nat.le_succ _))
    have hLw := HW.out.below hWr
    have hpj := blk_below hbj HP3.out (Nat.lt_succ_self _)
    have HWr := Lib.hid hWr
    have HPj := Lib.hid hpj
    have HLw := Lib.hid hLw
    have x0 : wr.cell? ⟨w.heap.size, 0, none⟩ = some (.int .i64 (k : Int)) := by rw [blk_cell hpj 0, HE.out, ← HK.out]; rfl
    rcases (show j < nI ∨ j = nI by omega) with hlt | rfl
    · have hlt' : (j : Int) < (nI : Int) := by omega
      have j0 : (0 : Int) ≤ (j : Int) := by omega
      have hjI : j < (evIx e.kind).length := by rw [← HNI.out]; exact hlt
      have hjN : j < (evNs e).length := by rw [HIl.out]; exact hjI
      obtain ⟨g, rfl, hgl, hgb⟩ := HG3.out (by intro h; rw [h] at hjI; simp at hjI)
      have hgr := hkj g _ hgb (by intro h; injection h with h; omega) (by intro c fz h; injection h with _ h2 _; revert h2; decide)
      have xg : wr.cell? ⟨g, j, none⟩ = some (.pointer (some ⟨w.heap.size, (evIx e.kind).getD j 0, none⟩)) := by
        rw [blk_cell hgr j]
        simp [List.getD, hjI]
      have xn : wr.cell? ⟨w.heap.size, (evIx e.kind).getD j 0, none⟩ = some (.int .i64 ((evNs e).getD j 0)) := by
        rw [blk_cell hpj, HE.out, List.getElem?_toArray]
        exact evIx_cell e hjI
      obtain ⟨jx, hjx⟩ : ∃ x, x = (evIx e.kind).getD j 0 := ⟨_, rfl⟩
      rw [← hjx] at xg xn
      have hnr := HIn.out ((evNs e).getD j 0) (by rw [getD_eq hjN]; exact List.getElem_mem _)
      have htk : ((evNs e).take (j + 1)).flatMap spB = ((evNs e).take j).flatMap spB ++ spB ((evNs e).getD j 0) := by
        rw [List.take_succ_eq_append_getElem hjN, List.flatMap_append, getD_eq hjN]; simp
      obtain ⟨n, hn⟩ : ∃ n, n = (evNs e).getD j 0 := ⟨_, rfl⟩
      rw [← hn] at xn hnr htk
      have HTk := Lib.hid htk
      have hln : (wordB k ++ ((evNs e).take j).flatMap spB).length ≤ 72 := by
        have h1 := word_len k
        have h2 := sps_len (L := (evNs e).take j) (fun m hm => HIn.out m (List.mem_of_mem_take hm))
        rw [List.length_take] at h2
        rw [List.length_append]; omega
      have HIt := Lib.hid (strconv_Itoa n (by omega) (by omega) wr HLw.out.tab)
      have hil := Lib.itoa_length_le n (by omega) (by omega)
      have his : (⟨(Lib.itoa n).toArray⟩ : ByteArray).size ≤ 21 := by show (Lib.itoa n).toArray.size ≤ 21; simpa using hil
      clear hjx hn htk hgr hgb hpj hLw hWr hkj hbj hBj
      go_wp2_with (go_at_call 24; refine HIt.out.mono ?_; rintro e4 w4 ⟨rfl, kk, os, hw4⟩; have hb4 : Below wr.heap.size wr w4 := (by rw [hw4]; exact Lib.below_grow _ _ (Nat.le_refl _) _ _); clear hw4)
      have hB4 := bld_below HBj.out hb4
      have l4 := hb4.size
      refine (prog_bStr (Or.inr hB4) _ ?_ ?_).mono ?_
      · rw [Lib.byteCells_length, ByteArray.size_append]
        have h1 : (⟨#[32]⟩ : ByteArray).size = 1 := rfl
        omega
      · omega
      rintro e5 w5 ⟨rfl, hB5, hb5, hk5⟩
      rw [str_sp, bytes_app, List.append_assoc] at hB5
      have H5 := Lib.hid (And.intro hB5 (And.intro ((Hbj.out.trans ((hb4.mono (by omega)).trans hb5))) (Hkj.out.trans (Lib.OthersKept.trans (c := w4) (fun k o h1 _ _ => (hb4.block k (Array.getElem?_eq_some_iff.1 h1).1).trans h1) hk5))))
      clear hB4 hb4 hB5 hb5 hk5 xg xn x0
      go_wp2
      go_roundw
      case rel => exact ⟨j + 1, by omega, by go_num, by rw [HTk.out]; exact H5.out.1, H5.out.2.1, H5.out.2.2⟩
      case measure => simp [intOf]; omega
    · have hge : ¬ (j : Int) < (j : Int) := by omega
      have hall : (evNs e).take j = evNs e := List.take_of_length_le (by rw [HIl.out, ← HNI.out]; exact Nat.le_refl _)
      rw [hall] at hBj
      have hln : (wordB k ++ (evNs e).flatMap spB).length ≤ 72 := by
        have h1 := word_len k
        have h2 := sps_len HIn.out
        rw [List.length_append]; omega
      have hgd : wr.cell? ⟨w.heap.size, 4, none⟩ = some (.bool e.good) := by rw [blk_cell hpj 4, HE.out]; rfl
      have hkn : e.kind.toNat = k := by rw [HK.out]; simp
      have hg4 : goodB e = if k = 4 then (if e.good then [32, 103, 111, 111, 100] else [32, 98, 97, 100]) else [] := by
        unfold goodB
        rw [HK.out]
        by_cases h : k = 4
        · rw [if_pos h, if_pos (by omega)]
        · rw [if_neg h, if_neg (by omega)]
      obtain ⟨gd, hgdd⟩ : ∃ g, g = e.good := ⟨_, rfl⟩
      rw [← hgdd] at hgd hg4
      have lwr := Hbj.out.size
      have HG4 := Lib.hid hg4
      obtain ⟨WL, hWL⟩ : ∃ l, l = wordB k ++ (evNs e).flatMap spB := ⟨_, rfl⟩
      rw [← hWL] at hBj hln
      have HWL := Lib.hid hWL
      have HKn := Lib.hid hkn
      clear hall hgdd hg4 hkn hbj hkj hWr hLw hpj hWL
      have hcs : (k = 4 ∧ gd = true) ∨ (k = 4 ∧ gd = false) ∨ ¬ k = 4 := by
        by_cases h : k = 4
        · cases gd
          · exact Or.inr (Or.inl ⟨h, rfl⟩)
          · exact Or.inl ⟨h, rfl⟩
        · exact Or.inr (Or.inr h)
      rcases hcs with ⟨rfl, rfl⟩ | ⟨rfl, rfl⟩ | h4
      go_wp2_with fail
      refine (prog_bStr (Or.inr hBj) ⟨#[32, 103, 111, 111, 100]⟩ (by rw [Lib.byteCells_length]; show _ + 5 ≤ _; omega) (by omega)).mono ?_
      rintro e5 w5 ⟨rfl, hB5, hb5, hk5⟩
      rw [Lib.strCells_eq, bytes_app, show (⟨#[32, 103, 111, 111, 100]⟩ : ByteArray).data.toList = goodB e by rw [HG4.out]; rfl] at hB5
      rotate_left
      go_wp2_with fail
      refine (prog_bStr (Or.inr hBj) ⟨#[32, 98, 97, 100]⟩ (by rw [Lib.byteCells_length]; show _ + 4 ≤ _; omega) (by omega)).mono ?_
      rintro e5 w5 ⟨rfl, hB5, hb5, hk5⟩
      rw [Lib.strCells_eq, bytes_app, show (⟨#[32, 98, 97, 100]⟩ : ByteArray).data.toList = goodB e by rw [HG4.out]; rfl] at hB5
      rotate_left
      have h4' : ((k : Int) == 4) = false := by simp; omega
      obtain ⟨w5, rfl⟩ : ∃ x, x = wr := ⟨_, rfl⟩
      have hB5 := hBj
      have hb5 := Below.refl (w.heap.size + 1) w5
      rw [← List.append_nil WL, show ([] : List UInt8) = goodB e by rw [HG4.out, if_neg h4]] at hB5
      all_goals (
        have HB5 := Lib.hid (And.intro hB5 (Hbj.out.trans hb5))
        have l5 := hb5.size
        have hlg : (WL ++ goodB e).length ≤ 80 := by
          rw [List.length_append]
          have h1 : (goodB e).length ≤ 5 := by
            unfold goodB
            split
            · split <;> simp
            · simp
          omega
        clear hB5 hb5
        go_wp2_with fail
        refine (prog_bByte (Or.inr HB5.out.1) 10 (by rw [Lib.byteCells_length]; omega) (by omega)).mono ?_
        rintro e6 w6 ⟨rfl, hB6, hb6, _⟩
        rw [show [Value.int .u8 10] = Lib.byteCells [10] from rfl, bytes_app] at hB6
        have l6 := hb6.size
        have HB6 := Lib.hid (And.intro hB6 (HB5.out.2.trans hb6))
        clear hB6 hb6
        go_wp2_with fail
        refine (Builder_String_any_k _ _ _ _ (Lib.IsBuilderF.of (Or.inr HB6.out.1)) (by omega)).mono ?_
        rintro e7 w7 ⟨rfl, _, hb7, _⟩
        have H7 := Lib.hid (HB6.out.2.trans hb7)
        clear hb7
        go_wp2
        go_ret
        have hln2 : lineB e = WL ++ (goodB e ++ [10]) := by unfold lineB; rw [HKn.out, ← HWL.out, List.append_assoc]
        exact ⟨by rw [hln2]; rfl, HW3.out.trans (H7.out.mono (Nat.le_succ _))⟩)
end Go.Proofs.YtnebijdifemicaaDoor

/- picker's walk along the ring. -/
import Derived.Test.YtjfnnbbnkcdbcaaPickP
import Derived.WalkMore
namespace Go.Proofs.Ytjfnnbbnkcdbcaa
open Go.RowKit

set_option maxHeartbeats 4000000 in
set_option maxRecDepth 100000 in
theorem prog_along (v cv wv : Value) (L : List Ld) (C Wk : List Int) (tries : Int) (w : World) (hv : RowAt w 3 v (L.map Ld.cells)) (hc : RowAt w 1 cv (icells C)) (hw : RowAt w 1 wv (icells Wk)) (hn : L.length ≤ 12) (hl : C.length = L.length) (hk : Wk.length ≤ 12) (t0 : 0 ≤ tries) (t1 : tries ≤ 12) :
    Calls Try.prog 56 #[.agg #[v, cv], wv, .int .i64 tries] w fun e w' => e = .returned (.int .i64 (alongF L C Wk tries)) ∧ Below w.heap.size w w' := by
  have RV := Lib.hid hv
  have RC := Lib.hid hc
  obtain ⟨a, c, rfl, _⟩ := RowAt_shape hv
  obtain ⟨a', c', rfl, _⟩ := icell hc
  obtain ⟨a2, c2, rfl, pw⟩ := icell hw
  have PW := Lib.hid pw
  have HLen := Lib.hid hl
  clear hv hc hw pw hl
  go_enter Try.func56, Try.ntmps56
  go_wp2
  go_step3
  go_wp2
  go_step3
  go_wp2
  go_loopw [2, 7, 13] (fun t f i wr => ∃ (k : Nat) (tv : Int), k ≤ Wk.length ∧ i = .int .i64 k ∧ t = .int .i64 tv ∧ f = .int .i64 (-1) ∧ 0 ≤ tv ∧ tv ≤ 12 ∧ alongF L C Wk tries = alongF L C (Wk.drop k) tv ∧ Below w.heap.size w wr ∧ w.heap.size < wr.heap.size ∧ wr.cell? ⟨w.heap.size, 0, none⟩ = some (.slice a L.length c) ∧ wr.cell? ⟨w.heap.size, 1, none⟩ = some (.slice a' C.length c')) (fun _ _ i _ => Wk.length - (intOf i).toNat)
  case atStart => exact ⟨0, tries, Nat.zero_le _, rfl, rfl, rfl, t0, t1, rfl, (Below.refl _ _).alloc (Nat.le_refl _) _, by simp, by go_simp, by go_simp⟩
  case round =>
    obtain ⟨k, tv, hk', rfl, rfl, rfl, t2, t3, hal, hb, hsz, c0, c1⟩ := hrel
    have HA := Lib.hid hal
    have HB := Lib.hid hb
    clear hal
    rcases (show k < Wk.length ∨ Wk.length = k by omega) with hlt | heq
    · have hlt' : (k : Int) < (Wk.length : Int) := by omega
      obtain ⟨b0, o0, rfl, hb0, q⟩ := PW.out (by intro h; rw [h] at hlt; simp at hlt)
      obtain ⟨b, hbk⟩ : ∃ b, b = Wk.getD k 0 := ⟨_, rfl⟩
      have a0 : wr.cell? ⟨b0, o0 + k, none⟩ = some (.int .i64 b) := by rw [hb.cell (p := ⟨b0, o0 + k, none⟩) hb0, hbk]; exact q k hlt
      have HD := Lib.hid (along_drop (L := L) (C := C) hlt tv)
      rw [← hbk] at HD
      have R1 := Lib.hid (RowAt_below RV.out hb)
      have R2 := Lib.hid (RowAt_below RC.out hb)
      clear hb hbk q
      rcases idxOf_cases (lwIs b) L Ld.zero with ⟨hi, _⟩ | ⟨i, hi, he, _⟩
      · have HI := Lib.hid hi
        have HN : Hid (alongF L C Wk tries = alongF L C (Wk.drop (k + 1)) tv) := by show _ = _; rw [HA.out, HD.out, if_pos (by omega)]
        clear hi
        go_wp2_with fail
        refine (prog_of _ _ L b _ R1.out hn ⟨_, _, _, rfl⟩).mono ?_
        rintro e w1 ⟨rfl, hb1⟩
        rw [HI.out]
        have B1 := Lib.hid (HB.out.trans (hb1.mono (Nat.le_of_lt hsz)))
        have e0 := Lib.hid (cell_below' hb1 c0)
        have e1 := Lib.hid (cell_below' hb1 c1)
        have s1 := hb1.size
        clear hb1
        go_wp2
        go_roundw
        case rel => exact ⟨k + 1, tv, by omega, by go_num, rfl, rfl, t2, t3, HN.out, B1.out, by omega, e0.out, e1.out⟩
        case measure => simp [intOf]; omega
      · have HI := Lib.hid he
        have i0 : ¬ (i : Int) < 0 := by omega
        rw [he] at HD
        simp only [Int.toNat_natCast, if_neg i0] at HD
        clear he
        rcases (show tv = 0 ∨ 0 < tv by omega) with rfl | htv
        · have HN : Hid (alongF L C Wk tries = -1) := by show _ = _; rw [HA.out]; have := HD.out; rw [if_pos rfl] at this; exact this
          go_wp2_with fail
          refine (prog_of _ _ L b _ R1.out hn ⟨_, _, _, rfl⟩).mono ?_
          rintro e w1 ⟨rfl, hb1⟩
          rw [HI.out]
          have B1 := Lib.hid (HB.out.trans (hb1.mono (Nat.le_of_lt hsz)))
          clear hb1
          go_wp2
          all_goals first | (go_ret; exact ⟨rI HN.out.symm, B1.out⟩) | (simp only [Exit.noGoto]; go_ret; exact ⟨rI HN.out.symm, B1.out⟩)
        · have htz : (tv == 0) = false := by simp; omega
          have ht2 : ¬ tv = 0 := by omega
          by_cases hr : pkRoom L C i = true
          · have HN : Hid (alongF L C Wk tries = i) := by show _ = _; rw [HA.out]; have := HD.out; rw [if_neg ht2] at this; simpa [hr] using this
            have HRm := Lib.hid hr
            clear hr
            go_wp2_with fail
            refine (prog_of _ _ L b _ R1.out hn ⟨_, _, _, rfl⟩).mono ?_
            rintro e w1 ⟨rfl, hb1⟩
            rw [HI.out]
            have B1 := Lib.hid (HB.out.trans (hb1.mono (Nat.le_of_lt hsz)))
            have e0 := cell_below' hb1 c0
            have e1 := cell_below' hb1 c1
            have Q1 := Lib.hid (RowAt_below R1.out hb1)
            have Q2 := Lib.hid (RowAt_below R2.out hb1)
            clear hb1
            go_wp2_with fail
            refine (prog_room _ _ L C i _ Q1.out Q2.out hi HLen.out).mono ?_
            rintro e w2 ⟨rfl, hb2⟩
            rw [HRm.out]
            have B2 := Lib.hid (B1.out.trans (hb2.mono B1.out.size))
            clear hb2
            go_wp2
            all_goals first | (go_ret; exact ⟨rI HN.out.symm, B2.out⟩) | (simp only [Exit.noGoto]; go_ret; exact ⟨rI HN.out.symm, B2.out⟩)
          · have hr' : pkRoom L C i = false := by simpa using hr
            have HN : Hid (alongF L C Wk tries = alongF L C (Wk.drop (k + 1)) (tv - 1)) := by show _ = _; rw [HA.out]; have := HD.out; rw [if_neg ht2] at this; simpa [hr] using this
            have HRm := Lib.hid hr'
            clear hr hr'
            go_wp2_with fail
            refine (prog_of _ _ L b _ R1.out hn ⟨_, _, _, rfl⟩).mono ?_
            rintro e w1 ⟨rfl, hb1⟩
            rw [HI.out]
            have B1 := Lib.hid (HB.out.trans (hb1.mono (Nat.le_of_lt hsz)))
            have e0 := cell_below' hb1 c0
            have e1 := cell_below' hb1 c1
            have Q1 := Lib.hid (RowAt_below R1.out hb1)
            have Q2 := Lib.hid (RowAt_below R2.out hb1)
            have s1 := hb1.size
            clear hb1
            go_wp2_with fail
            refine (prog_room _ _ L C i _ Q1.out Q2.out hi HLen.out).mono ?_
            rintro e w2 ⟨rfl, hb2⟩
            rw [HRm.out]
            have B2 := Lib.hid (B1.out.trans (hb2.mono B1.out.size))
            have g0 := Lib.hid (cell_below' hb2 e0)
            have g1 := Lib.hid (cell_below' hb2 e1)
            have s2 := hb2.size
            clear hb2
            go_wp2
            go_roundw
            case rel => exact ⟨k + 1, tv - 1, by omega, by go_num, by go_num, rfl, by omega, by omega, HN.out, B2.out, by omega, g0.out, g1.out⟩
            case measure => simp [intOf]; omega
    · have hge : ¬ (k : Int) < (Wk.length : Int) := by omega
      have HN : Hid (alongF L C Wk tries = -1) := by show _ = _; rw [HA.out, List.drop_eq_nil_of_le (by omega)]; rfl
      clear hb heq
      go_wp2
      all_goals first | (go_ret; exact ⟨rI HN.out.symm, HB.out⟩) | (exfalso; first | omega | (simp at *; omega) | (simp at *; done))
end Go.Proofs.Ytjfnnbbnkcdbcaa

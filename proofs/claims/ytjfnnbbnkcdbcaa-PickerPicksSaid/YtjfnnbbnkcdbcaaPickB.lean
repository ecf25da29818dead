/- picker's least: its contract. -/
import Derived.Test.YtjfnnbbnkcdbcaaPickP
import Derived.Deep.RegionHeld3
namespace Go.Proofs.Ytjfnnbbnkcdbcaa
open Go.RowKit

theorem ld_may {L : List Ld} (h : LdsMay L) {i : Nat} (hi : i < L.length) : 0 ≤ (L.getD i Ld.zero).weight ∧ (L.getD i Ld.zero).weight ≤ 8 ∧ 0 ≤ (L.getD i Ld.zero).flows ∧ (L.getD i Ld.zero).flows ≤ 40 := by
  have := h.2 i hi
  unfold LdAt at this
  exact ⟨this.2.2.1, this.2.2.2.1, this.2.2.2.2.1, this.2.2.2.2.2⟩
theorem mul_wrap {a b : Int} (h1 : 0 ≤ a) (h2 : a ≤ 40) (h3 : 0 ≤ b) (h4 : b ≤ 8) : IntKind.i64.wrap (a * b) = a * b := by
  have := mul_bd2 h1 h2 h3 h4
  exact IntWalk.i64_in _ (by omega)
/-- What holds at the head of least's loop. -/
def LsRel (w wr : World) (v cv : Value) (L : List Ld) (C : List Int) (k : Nat) (b : Int) : Prop := k ≤ L.length ∧ BestIs L C 0 k b ∧ Below w.heap.size w wr ∧ w.heap.size < wr.heap.size ∧ wr.cell? ⟨w.heap.size, 0, none⟩ = some v ∧ wr.cell? ⟨w.heap.size, 1, none⟩ = some cv

set_option maxHeartbeats 4000000 in
set_option maxRecDepth 100000 in
theorem prog_least (v cv : Value) (L : List Ld) (C : List Int) (b : Int) (w : World) (hv : RowAt w 3 v (L.map Ld.cells)) (hc : RowAt w 1 cv (icells C)) (hm : LdsMay L) (hl : C.length = L.length) (hB : BestIs L C 0 L.length b) :
    Calls Try.prog 57 #[.agg #[v, cv]] w fun e w' => e = .returned (.int .i64 b) ∧ Below w.heap.size w w' := by
  have RV := Lib.hid hv
  have RC := Lib.hid hc
  have HBst := Lib.hid hB
  have HM := Lib.hid hm
  have h12 := hm.1
  obtain ⟨a, c, rfl, _, _, _, p⟩ := RowAt_fn Ld.zero hv
  have P := Lib.hid p
  obtain ⟨a', c', rfl, _⟩ := icell hc
  have HLen := Lib.hid hl
  clear hv hc hB hm p hl
  go_enter Try.func57, Try.ntmps57
  go_wp2
  go_loopw [3, 9] (fun t i wr => ∃ (k : Nat) (bv : Int), i = .int .i64 k ∧ t = .int .i64 bv ∧ LsRel w wr (.slice a L.length c) (.slice a' C.length c') L C k bv) (fun _ i _ => L.length - (intOf i).toNat)
  case atStart => exact ⟨0, -1, rfl, rfl, Nat.zero_le _, best_start 0, (Below.refl _ _).alloc (Nat.le_refl _) _, by simp, by go_simp, by go_simp⟩
  case round =>
    obtain ⟨k, bv, rfl, rfl, hk, hbst, hb, hsz, c0, c1⟩ := hrel
    have HS := Lib.hid hbst
    have HB := Lib.hid hb
    rcases (show k < L.length ∨ L.length = k by omega) with hlt | heq
    · have hlt' : (k : Int) < (L.length : Int) := by omega
      have p0 : (0 : Int) ≤ (k : Int) := by omega
      obtain ⟨b0, o0, rfl, hb0, q⟩ := P.out (by intro h; rw [h] at hlt; simp at hlt)
      have hq : ∀ i j, i < L.length → j < 3 → wr.cell? ⟨b0, o0 + i * 3 + j, none⟩ = (L.getD i Ld.zero).cells[j]? := fun i j hi hj => by
        rw [hb.cell (p := ⟨b0, o0 + i * 3 + j, none⟩) hb0]; exact q i j hi hj
      have HQ := Lib.hid hq
      obtain ⟨s, hs⟩ : ∃ s, s = L.getD k Ld.zero := ⟨_, rfl⟩
      have HSs := Lib.hid hs
      have a0 := hq k 0 hlt (by omega)
      have a1 := hq k 1 hlt (by omega)
      have a2 := hq k 2 hlt (by omega)
      have bd := ld_may HM.out hlt
      rw [← hs] at a0 a1 a2 bd
      have lt := best_lt hbst
      have Q1 := Lib.hid (RowAt_below RV.out hb)
      have Q2 := Lib.hid (RowAt_below RC.out hb)
      clear hs hq q hb hbst
      obtain ⟨bk, wt, fl⟩ := s
      simp only [Ld.cells, List.getElem?_cons_zero, List.getElem?_cons_succ, Nat.add_zero] at a0 a1 a2 bd
      obtain ⟨bd0, bd1, bd2, bd3⟩ := bd
      have lb : b0 < wr.heap.size := cell_lt a0
      have hW : Hid (pkW L k = wt) := by show _ = _; unfold pkW; rw [← HSs.out]
      have hF : Hid (pkF L k = fl) := by show _ = _; unfold pkF; rw [← HSs.out]
      rcases (show wt = 0 ∨ 0 < wt by omega) with rfl | hwt
      · have HN : Hid (BestIs L C 0 (k + 1) bv) := best_up_no HS.out (fun h => by have h1 := h.1; have h2 := hW.out; unfold pkW at h2; omega)
        go_wp2
        go_roundw
        case rel => exact ⟨k + 1, bv, by go_num, rfl, by omega, HN.out, HB.out.alloc (by omega) _, by simp; omega, cell_alloc _ c0, cell_alloc _ c1⟩
        case measure => simp [intOf]; omega
      · have hwz : (wt == 0) = false := by simp; omega
        by_cases hr : pkRoom L C k = true
        rotate_left
        · have hr' : pkRoom L C k = false := by simpa using hr
          have HRm := Lib.hid hr'
          have HN : Hid (BestIs L C 0 (k + 1) bv) := best_up_no HS.out (fun h => hr h.2)
          clear hr hr'
          go_wp2_with (first | (go_at_call 70; refine (prog_room _ _ L C k _ (RowAt_alloc Q1.out _) (RowAt_alloc Q2.out _) hlt HLen.out).mono ?_; rintro e w1 ⟨rfl, hb1⟩; rw [HRm.out]))
          have hbx : Hid (Below wr.heap.size wr w1) := ((Below.refl _ _).alloc (Nat.le_refl _) _).trans (hb1.mono (by simp))
          have s1 := hb1.size
          simp at s1
          clear hb1
          go_wp2
          go_roundw
          case rel => exact ⟨k + 1, bv, by go_num, rfl, by omega, HN.out, HB.out.trans (hbx.out.mono (by omega)), by omega, cell_below' hbx.out c0, cell_below' hbx.out c1⟩
          case measure => simp [intOf]; omega
        · have HOk : Hid (pkOk L C k) := ⟨by have h2 := hW.out; unfold pkW at h2; omega, hr⟩
          have HRm := Lib.hid hr
          clear hr
          rcases lt with rfl | ⟨m, rfl, hmk⟩
          · have HN : Hid (BestIs L C 0 (k + 1) k) := best_up_new HS.out HOk.out (Or.inl (by omega))
            go_wp2_with (first | (go_at_call 70; refine (prog_room _ _ L C k _ (RowAt_alloc Q1.out _) (RowAt_alloc Q2.out _) hlt HLen.out).mono ?_; rintro e w1 ⟨rfl, hb1⟩; rw [HRm.out]))
            have hbx : Hid (Below wr.heap.size wr w1) := ((Below.refl _ _).alloc (Nat.le_refl _) _).trans (hb1.mono (by simp))
            have hE := blk_below hb1 (heap_at (w := wr) (.cells #[.int .i64 bk, .int .i64 wt, .int .i64 fl] 116) rfl) (by simp)
            have x1 := blk_cell hE 1
            have x2 := blk_cell hE 2
            simp at x1 x2
            have s1 := hb1.size
            simp at s1
            have y0 := cell_below' hbx.out c0
            have y1 := cell_below' hbx.out c1
            clear hb1 hE
            go_wp2_with fail
            go_quiet (fail)
            go_wp2
            go_roundw
            case rel => exact ⟨k + 1, k, by go_num, rfl, by omega, HN.out, Below_drewN (HB.out.trans (hbx.out.mono (by omega))), by simp; omega, by simpa using y0, by simpa using y1⟩
            case measure => simp [intOf]; omega
          · have hmL : m < L.length := by omega
            have hm' : (m : Int) < (L.length : Int) := by omega
            have p1 : (0 : Int) ≤ (m : Int) := by omega
            obtain ⟨s, hs⟩ : ∃ s, s = L.getD m Ld.zero := ⟨_, rfl⟩
            have d1 := HQ.out m 1 hmL (by omega)
            have d2 := HQ.out m 2 hmL (by omega)
            have be := ld_may HM.out hmL
            rw [← hs] at d1 d2 be
            have hWm : Hid (pkW L m = s.weight) := by show _ = _; unfold pkW; rw [← hs]
            have hFm : Hid (pkF L m = s.flows) := by show _ = _; unfold pkF; rw [← hs]
            clear hs
            obtain ⟨bm, wm, fm⟩ := s
            simp only [Ld.cells, List.getElem?_cons_zero, List.getElem?_cons_succ] at d1 d2 be
            obtain ⟨be0, be1, be2, be3⟩ := be
            have z1 := mul_wrap bd2 bd3 be0 be1
            have z2 := mul_wrap be2 be3 bd0 bd1
            obtain ⟨P1, hP1⟩ : ∃ P1, P1 = fl * wm := ⟨_, rfl⟩
            obtain ⟨P2, hP2⟩ : ∃ P2, P2 = fm * wt := ⟨_, rfl⟩
            have HP : Hid (pkF L k * pkW L m = P1 ∧ pkF L m * pkW L k = P2) := by
              rw [Hid, hF.out, hW.out, hFm.out, hWm.out, hP1, hP2]; exact ⟨rfl, rfl⟩
            go_wp2_with (first | (go_at_call 70; refine (prog_room _ _ L C k _ (RowAt_alloc Q1.out _) (RowAt_alloc Q2.out _) hlt HLen.out).mono ?_; rintro e w1 ⟨rfl, hb1⟩; rw [HRm.out]))
            have hbx : Hid (Below wr.heap.size wr w1) := ((Below.refl _ _).alloc (Nat.le_refl _) _).trans (hb1.mono (by simp))
            have hE := blk_below hb1 (heap_at (w := wr) (.cells #[.int .i64 bk, .int .i64 wt, .int .i64 fl] 116) rfl) (by simp)
            have x1 := blk_cell hE 1
            have x2 := blk_cell hE 2
            simp at x1 x2
            have s1 := hb1.size
            simp at s1
            have y0 := cell_below' hbx.out c0
            have y1 := cell_below' hbx.out c1
            have u1 := cell_below' hbx.out d1
            have u2 := cell_below' hbx.out d2
            clear hb1 hE
            have hm0 : ¬ (m : Int) < 0 := by omega
            have hd0 : decide ((m : Int) < 0) = false := by simp
            by_cases hc : P1 < P2
            · have hc' : fl * wm < fm * wt := by rw [← hP1, ← hP2]; exact hc
              have HN : Hid (BestIs L C 0 (k + 1) k) := best_up_new HS.out HOk.out (Or.inr (by have h := HP.out; simp only [Int.toNat_natCast]; rw [h.1, h.2]; exact hc))
              clear hc hP1 hP2
              go_wp2_with fail
              go_quiet (fail)
              go_wp2
              go_roundw
              case rel => exact ⟨k + 1, k, by go_num, rfl, by omega, HN.out, Below_drewN (HB.out.trans (hbx.out.mono (by omega))), by simp; omega, by simpa using y0, by simpa using y1⟩
              case measure => simp [intOf]; omega
            · have hc' : fm * wt ≤ fl * wm := by rw [← hP1, ← hP2]; omega
              have hcd : decide (fl * wm < fm * wt) = false := by simpa using hc'
              have HN : Hid (BestIs L C 0 (k + 1) m) := best_up_keep HS.out (by omega) (by have h := HP.out; simp only [Int.toNat_natCast]; rw [h.1, h.2]; exact hc)
              clear hc hP1 hP2
              go_wp2_with fail
              go_quiet (fail)
              go_wp2
              go_roundw
              case rel => exact ⟨k + 1, m, by go_num, rfl, by omega, HN.out, Below_drewN (HB.out.trans (hbx.out.mono (by omega))), by simp; omega, by simpa using y0, by simpa using y1⟩
              case measure => simp [intOf]; omega
    · have hge : ¬ (k : Int) < (L.length : Int) := by omega
      have HE : Hid (bv = b) := by rw [← heq] at hbst; exact best_one hbst HBst.out
      clear hb hbst heq
      go_wp2
      all_goals first | (go_ret; exact ⟨rI HE.out, HB.out⟩) | (exfalso; first | omega | (simp at *; omega) | (simp at *; done))
end Go.Proofs.Ytjfnnbbnkcdbcaa

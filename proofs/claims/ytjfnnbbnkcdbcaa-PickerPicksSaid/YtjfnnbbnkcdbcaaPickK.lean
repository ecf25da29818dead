/- picker.Pick: its contract. -/
import Derived.Test.YtjfnnbbnkcdbcaaPickA
import Derived.Test.YtjfnnbbnkcdbcaaPickB
namespace Go.Proofs.Ytjfnnbbnkcdbcaa
open Go.RowKit

theorem pc_any (v : Value) (L : List Ld) (num den flows : Int) (Y : List Int) (code : Int) (w : World) (hv : RowAt w 3 v (L.map Ld.cells)) (h : CapsAns L num den flows Y code) : Calls Try.prog 37 #[v, .int .i64 num, .int .i64 den, .int .i64 flows] w (CapsPost w Y code) := by
  rcases h with ⟨h, rfl, rfl⟩ | ⟨h, h2, rfl, rfl⟩ | ⟨h, h2, rfl, rfl⟩
  · exact prog_Caps_bad v L num den flows w hv h
  · exact prog_Caps_range v L num den flows w hv h h2
  · exact prog_Caps_ok v L num den flows w hv h h2
def pw (x : Ld) : Bool := decide (0 < x.weight)
set_option maxRecDepth 100000 in
theorem pk1 (x : Ld) (w : World) : Calls Try.prog 55 #[Ld.agg x] w fun e w' => e = .returned (.bool (pw x)) ∧ Below w.heap.size w w' := by
  obtain ⟨bk, wt, fl⟩ := x
  have HV : Hid (decide (0 < wt) = pw ⟨bk, wt, fl⟩) := rfl
  unfold Ld.agg
  go_enter Try.func55, Try.ntmps55
  go_wp2
  all_goals first | (go_ret; exact ⟨rB HV.out, (by repeat (first | (with_reducible exact Below.refl _ _) | (with_reducible assumption) | (with_reducible refine Below.drew ?_) | (with_reducible refine Below_drewN ?_) | (with_reducible refine Below.alloc ?_ (by first | omega | (simp; done) | (simp; omega)) _) | (with_reducible refine Below.setCell ?_ (by first | omega | (simp; done) | (simp; omega)) _) | (with_reducible refine Below.trans ?_ (Below.mono (by assumption) (by first | omega | (simp; done) | (simp; omega))))))⟩) | (exfalso; first | omega | (simp at *; omega) | (simp at *; done))
theorem pw_any {L : List Ld} (h : ∃ x ∈ L, 0 < x.weight) : L.any pw = true := by
  obtain ⟨x, hx, h⟩ := h
  exact List.any_eq_true.2 ⟨x, hx, by simpa [pw] using h⟩
theorem pw_none {L : List Ld} (h : ∀ x ∈ L, ¬ 0 < x.weight) : L.any pw = false := by
  rw [List.any_eq_false]
  intro x hx
  have := h x hx
  simp [pw]; omega
theorem caps_len (L : List Ld) (num den flows : Int) : (capsL L num den flows).length = L.length := by simp [capsL]

set_option maxHeartbeats 4000000 in
set_option maxRecDepth 100000 in
theorem prog_Pick (wv v : Value) (Wk : List Int) (L : List Ld) (num den flows tries b code : Int) (w : World) (hw : RowAt w 1 wv (icells Wk)) (hv : RowAt w 3 v (L.map Ld.cells)) (h : PkAns Wk L num den flows tries b code) :
    Calls Try.prog 24 #[wv, v, .int .i64 num, .int .i64 den, .int .i64 flows, .int .i64 tries] w fun e w' => e = .returned (.tuple #[.int .i64 b, .int .i64 code]) ∧ Below w.heap.size w w' := by
  have RV := Lib.hid hv
  have RW := Lib.hid hw
  obtain ⟨a, c, rfl, _, _, _, p⟩ := RowAt_fn Ld.zero hv
  obtain ⟨a2, c2, rfl, _⟩ := icell hw
  have P := Lib.hid p
  clear hv hw p
  rcases h with ⟨Y, h, h0, rfl⟩ | ⟨hm, hf, h3, rfl, rfl⟩ | ⟨hm, hf, t0, t1, hk, hno, rfl, rfl⟩ | ⟨hm, hf, t0, t1, hk, hyes, hD⟩
  · have HA := Lib.hid h
    have hc : code = 6 ∨ code = 2 := by rcases h with ⟨_, _, h⟩ | ⟨_, _, _, h⟩ | ⟨_, _, _, h⟩ <;> omega
    clear h h0
    rcases hc with rfl | rfl
    all_goals
      go_enter Try.func24, Try.ntmps24
      go_wp2_with fail
      refine (pc_any _ L num den flows _ _ _ RV.out HA.out).mono ?_; rintro e w1 ⟨v1, rfl, R1, hb1⟩; obtain ⟨a1, c1, rfl, _⟩ := RowAt_shape (f := fun x => [Value.int .i64 x]) R1.1; have R1' := Lib.hid R1.1; have B1 := Lib.hid hb1; clear R1 hb1
      have B1' := B1.out
      go_wp2
    · (refine bodyPost_ret (v := .tuple #[.int .i64 0, .int .i64 6]) ?_ rfl ?_; (focus (first | (simp [results, Try.results24, go_sem]; done) | (simp [results, Try.results24, go_sem, *]; done))); exact ⟨rfl, (by repeat (first | (with_reducible exact Below.refl _ _) | (with_reducible assumption) | (with_reducible refine Below.drew ?_) | (with_reducible refine Below_drewN ?_) | (with_reducible refine Below.alloc ?_ (by first | omega | (simp; done) | (simp; omega)) _) | (with_reducible refine Below.setCell ?_ (by first | omega | (simp; done) | (simp; omega)) _) | (with_reducible refine Below.trans ?_ (Below.mono (by assumption) (by first | omega | (simp; done) | (simp; omega))))))⟩)
    · (refine bodyPost_ret (v := .tuple #[.int .i64 0, .int .i64 2]) ?_ rfl ?_; (focus (first | (simp [results, Try.results24, go_sem]; done) | (simp [results, Try.results24, go_sem, *]; done))); exact ⟨rfl, (by repeat (first | (with_reducible exact Below.refl _ _) | (with_reducible assumption) | (with_reducible refine Below.drew ?_) | (with_reducible refine Below_drewN ?_) | (with_reducible refine Below.alloc ?_ (by first | omega | (simp; done) | (simp; omega)) _) | (with_reducible refine Below.setCell ?_ (by first | omega | (simp; done) | (simp; omega)) _) | (with_reducible refine Below.trans ?_ (Below.mono (by assumption) (by first | omega | (simp; done) | (simp; omega))))))⟩)
  · have HA : Hid (CapsAns L num den flows (capsL L num den flows) 0) := Or.inr (Or.inr ⟨hm, hf, rfl, rfl⟩)
    clear hm hf
    rcases h3 with t0 | ⟨t0, t1⟩ | ⟨t0, t1, t2⟩
    all_goals
      (try have t2' : (12 : Int) < (Wk.length : Int) := by omega)
      go_enter Try.func24, Try.ntmps24
      go_wp2_with fail
      refine (pc_any _ L num den flows _ _ _ RV.out HA.out).mono ?_; rintro e w1 ⟨v1, rfl, R1, hb1⟩; obtain ⟨a1, c1, rfl, _⟩ := RowAt_shape (f := fun x => [Value.int .i64 x]) R1.1; have R1' := Lib.hid R1.1; have B1 := Lib.hid hb1; clear R1 hb1
      have B1' := B1.out
      go_wp2
      (refine bodyPost_ret (v := .tuple #[.int .i64 0, .int .i64 2]) ?_ rfl ?_; (focus (first | (simp [results, Try.results24, go_sem]; done) | (simp [results, Try.results24, go_sem, *]; done))); exact ⟨rfl, (by repeat (first | (with_reducible exact Below.refl _ _) | (with_reducible assumption) | (with_reducible refine Below.drew ?_) | (with_reducible refine Below_drewN ?_) | (with_reducible refine Below.alloc ?_ (by first | omega | (simp; done) | (simp; omega)) _) | (with_reducible refine Below.setCell ?_ (by first | omega | (simp; done) | (simp; omega)) _) | (with_reducible refine Below.trans ?_ (Below.mono (by assumption) (by first | omega | (simp; done) | (simp; omega))))))⟩)
  · have HA : Hid (CapsAns L num den flows (capsL L num den flows) 0) := Or.inr (Or.inr ⟨hm, hf, rfl, rfl⟩)
    have HAny := Lib.hid (pw_none hno)
    have hk' : (Wk.length : Int) ≤ 12 := by omega
    have h12 := hm.1
    clear hm hf hno
    go_enter Try.func24, Try.ntmps24
    go_wp2_with fail
    refine (pc_any _ L num den flows _ _ _ RV.out HA.out).mono ?_; rintro e w1 ⟨v1, rfl, R1, hb1⟩; obtain ⟨a1, c1, rfl, _⟩ := RowAt_shape (f := fun x => [Value.int .i64 x]) R1.1; have R1' := Lib.hid R1.1; have B1 := Lib.hid hb1; clear R1 hb1
    go_wp2_with fail
    refine (ctLd_any 55 #[] (fun _ _ => rfl) pw _ L _ (RowAt_below RV.out B1.out) (by omega) (fun x _ w' _ => pk1 x w')).mono ?_; rintro e w2 ⟨rfl, hb2⟩; rw [HAny.out]; have B2 := Lib.hid (B1.out.trans (hb2.mono B1.out.size)); have R2 := Lib.hid (RowAt_below R1'.out hb2); clear hb2 R1'
    have B2' := B2.out
    go_wp2
    (refine bodyPost_ret (v := .tuple #[.int .i64 0, .int .i64 11]) ?_ rfl ?_; (focus (first | (simp [results, Try.results24, go_sem]; done) | (simp [results, Try.results24, go_sem, *]; done))); exact ⟨rfl, (by repeat (first | (with_reducible exact Below.refl _ _) | (with_reducible assumption) | (with_reducible refine Below.drew ?_) | (with_reducible refine Below_drewN ?_) | (with_reducible refine Below.alloc ?_ (by first | omega | (simp; done) | (simp; omega)) _) | (with_reducible refine Below.setCell ?_ (by first | omega | (simp; done) | (simp; omega)) _) | (with_reducible refine Below.trans ?_ (Below.mono (by assumption) (by first | omega | (simp; done) | (simp; omega))))))⟩)
  · have HA : Hid (CapsAns L num den flows (capsL L num den flows) 0) := Or.inr (Or.inr ⟨hm, hf, rfl, rfl⟩)
    have HAny := Lib.hid (pw_any hyes)
    have hk' : (Wk.length : Int) ≤ 12 := by omega
    have h12 := hm.1
    have HM := Lib.hid hm
    clear hf hyes hm
    rcases hD with ⟨m, hmL, hal, rfl, rfl⟩ | ⟨hal, m, hmL, hb, rfl, rfl⟩ | ⟨hal, hb, rfl, rfl⟩
    · have HAl := Lib.hid hal
      have hm' : (m : Int) < (L.length : Int) := by omega
      have p0 : (0 : Int) ≤ (m : Int) := by omega
      obtain ⟨b0, o0, rfl, hb0, q⟩ := P.out (by intro h; rw [h] at hmL; simp at hmL)
      have q0 := q m 0 hmL (by omega)
      obtain ⟨s, hs⟩ : ∃ s, s = L.getD m Ld.zero := ⟨_, rfl⟩
      rw [← hs] at q0 ⊢
      obtain ⟨bk, wt, fl⟩ := s
      simp only [Ld.cells, List.getElem?_cons_zero, Nat.add_zero] at q0
      have Q0 := Lib.hid q0
      clear hal q hs q0
      go_enter Try.func24, Try.ntmps24
      go_wp2_with fail
      refine (pc_any _ L num den flows _ _ _ RV.out HA.out).mono ?_; rintro e w1 ⟨v1, rfl, R1, hb1⟩; obtain ⟨a1, c1, rfl, _⟩ := RowAt_shape (f := fun x => [Value.int .i64 x]) R1.1; have R1' := Lib.hid R1.1; have B1 := Lib.hid hb1; clear R1 hb1
      go_wp2_with fail
      refine (ctLd_any 55 #[] (fun _ _ => rfl) pw _ L _ (RowAt_below RV.out B1.out) (by omega) (fun x _ w' _ => pk1 x w')).mono ?_; rintro e w2 ⟨rfl, hb2⟩; rw [HAny.out]; have B2 := Lib.hid (B1.out.trans (hb2.mono B1.out.size)); have R2 := Lib.hid (RowAt_below R1'.out hb2); clear hb2 R1'
      go_wp2_with fail
      refine (prog_along _ _ _ L (capsL L num den flows) Wk tries _ (RowAt_alloc (RowAt_below RV.out B2.out) _) (RowAt_alloc R2.out _) (RowAt_alloc (RowAt_below RW.out B2.out) _) h12 (caps_len L num den flows) hk t0 t1).mono ?_; rintro e w3 ⟨rfl, hb3⟩; rw [HAl.out]
      have B3 := (B2.out.alloc B2.out.size _).trans (hb3.mono (by simp; have := B2.out.size; omega))
      have x0 : w3.cell? ⟨b0, o0 + m * 3, none⟩ = some (.int .i64 bk) := (B3.cell (p := ⟨b0, o0 + m * 3, none⟩) hb0).trans Q0.out
      clear hb3
      go_wp2
      (refine bodyPost_ret (v := .tuple #[.int .i64 bk, .int .i64 0]) ?_ rfl ?_; (focus (first | (simp [results, Try.results24, go_sem]; done) | (simp [results, Try.results24, go_sem, *]; done))); exact ⟨rfl, (by repeat (first | (with_reducible exact Below.refl _ _) | (with_reducible assumption) | (with_reducible refine Below.drew ?_) | (with_reducible refine Below_drewN ?_) | (with_reducible refine Below.alloc ?_ (by first | omega | (simp; done) | (simp; omega)) _) | (with_reducible refine Below.setCell ?_ (by first | omega | (simp; done) | (simp; omega)) _) | (with_reducible refine Below.trans ?_ (Below.mono (by assumption) (by first | omega | (simp; done) | (simp; omega))))))⟩)
    · have HAl := Lib.hid hal
      have HBe := Lib.hid hb
      have hm' : (m : Int) < (L.length : Int) := by omega
      have p0 : (0 : Int) ≤ (m : Int) := by omega
      obtain ⟨b0, o0, rfl, hb0, q⟩ := P.out (by intro h; rw [h] at hmL; simp at hmL)
      have q0 := q m 0 hmL (by omega)
      obtain ⟨s, hs⟩ : ∃ s, s = L.getD m Ld.zero := ⟨_, rfl⟩
      rw [← hs] at q0 ⊢
      obtain ⟨bk, wt, fl⟩ := s
      simp only [Ld.cells, List.getElem?_cons_zero, Nat.add_zero] at q0
      have Q0 := Lib.hid q0
      clear hal q hs q0 hb
      go_enter Try.func24, Try.ntmps24
      go_wp2_with fail
      refine (pc_any _ L num den flows _ _ _ RV.out HA.out).mono ?_; rintro e w1 ⟨v1, rfl, R1, hb1⟩; obtain ⟨a1, c1, rfl, _⟩ := RowAt_shape (f := fun x => [Value.int .i64 x]) R1.1; have R1' := Lib.hid R1.1; have B1 := Lib.hid hb1; clear R1 hb1
      go_wp2_with fail
      refine (ctLd_any 55 #[] (fun _ _ => rfl) pw _ L _ (RowAt_below RV.out B1.out) (by omega) (fun x _ w' _ => pk1 x w')).mono ?_; rintro e w2 ⟨rfl, hb2⟩; rw [HAny.out]; have B2 := Lib.hid (B1.out.trans (hb2.mono B1.out.size)); have R2 := Lib.hid (RowAt_below R1'.out hb2); clear hb2 R1'
      go_wp2_with fail
      refine (prog_along _ _ _ L (capsL L num den flows) Wk tries _ (RowAt_alloc (RowAt_below RV.out B2.out) _) (RowAt_alloc R2.out _) (RowAt_alloc (RowAt_below RW.out B2.out) _) h12 (caps_len L num den flows) hk t0 t1).mono ?_; rintro e w3 ⟨rfl, hb3⟩; rw [HAl.out]
      have y0 := cell_below' hb3 (w := w2.alloc (.cells #[.slice (some ⟨b0, o0, none⟩) L.length c, .slice a1 (capsL L num den flows).length c1] 119)) (b := w2.heap.size) (o := 0) (v := .slice (some ⟨b0, o0, none⟩) L.length c) (by simp)
      have y1 := cell_below' hb3 (w := w2.alloc (.cells #[.slice (some ⟨b0, o0, none⟩) L.length c, .slice a1 (capsL L num den flows).length c1] 119)) (b := w2.heap.size) (o := 1) (v := .slice a1 (capsL L num den flows).length c1) (by simp)
      have B3 := Lib.hid ((B2.out.alloc B2.out.size _).trans (hb3.mono (by simp; have := B2.out.size; omega)))
      have X1 := Lib.hid (RowAt_below (RowAt_alloc (RowAt_below RV.out B2.out) _) hb3)
      have X2 := Lib.hid (RowAt_below (RowAt_alloc R2.out _) hb3)
      clear hb3
      go_wp2_with fail
      refine (prog_least _ _ L (capsL L num den flows) m _ X1.out X2.out HM.out (caps_len L num den flows) HBe.out).mono ?_
      rintro e w4 ⟨rfl, hb4⟩
      have B4 := B3.out.trans (hb4.mono B3.out.size)
      have x0 : w4.cell? ⟨b0, o0 + m * 3, none⟩ = some (.int .i64 bk) := (B4.cell (p := ⟨b0, o0 + m * 3, none⟩) hb0).trans Q0.out
      clear hb4
      go_wp2
      (refine bodyPost_ret (v := .tuple #[.int .i64 bk, .int .i64 0]) ?_ rfl ?_; (focus (first | (simp [results, Try.results24, go_sem]; done) | (simp [results, Try.results24, go_sem, *]; done))); exact ⟨rfl, (by repeat (first | (with_reducible exact Below.refl _ _) | (with_reducible assumption) | (with_reducible refine Below.drew ?_) | (with_reducible refine Below_drewN ?_) | (with_reducible refine Below.alloc ?_ (by first | omega | (simp; done) | (simp; omega)) _) | (with_reducible refine Below.setCell ?_ (by first | omega | (simp; done) | (simp; omega)) _) | (with_reducible refine Below.trans ?_ (Below.mono (by assumption) (by first | omega | (simp; done) | (simp; omega))))))⟩)
    · have HAl := Lib.hid hal
      have HBe := Lib.hid hb
      clear hal hb
      go_enter Try.func24, Try.ntmps24
      go_wp2_with fail
      refine (pc_any _ L num den flows _ _ _ RV.out HA.out).mono ?_; rintro e w1 ⟨v1, rfl, R1, hb1⟩; obtain ⟨a1, c1, rfl, _⟩ := RowAt_shape (f := fun x => [Value.int .i64 x]) R1.1; have R1' := Lib.hid R1.1; have B1 := Lib.hid hb1; clear R1 hb1
      go_wp2_with fail
      refine (ctLd_any 55 #[] (fun _ _ => rfl) pw _ L _ (RowAt_below RV.out B1.out) (by omega) (fun x _ w' _ => pk1 x w')).mono ?_; rintro e w2 ⟨rfl, hb2⟩; rw [HAny.out]; have B2 := Lib.hid (B1.out.trans (hb2.mono B1.out.size)); have R2 := Lib.hid (RowAt_below R1'.out hb2); clear hb2 R1'
      go_wp2_with fail
      refine (prog_along _ _ _ L (capsL L num den flows) Wk tries _ (RowAt_alloc (RowAt_below RV.out B2.out) _) (RowAt_alloc R2.out _) (RowAt_alloc (RowAt_below RW.out B2.out) _) h12 (caps_len L num den flows) hk t0 t1).mono ?_; rintro e w3 ⟨rfl, hb3⟩; rw [HAl.out]
      have y0 := cell_below' hb3 (w := w2.alloc (.cells #[.slice a L.length c, .slice a1 (capsL L num den flows).length c1] 119)) (b := w2.heap.size) (o := 0) (v := .slice a L.length c) (by simp)
      have y1 := cell_below' hb3 (w := w2.alloc (.cells #[.slice a L.length c, .slice a1 (capsL L num den flows).length c1] 119)) (b := w2.heap.size) (o := 1) (v := .slice a1 (capsL L num den flows).length c1) (by simp)
      have B3 := Lib.hid ((B2.out.alloc B2.out.size _).trans (hb3.mono (by simp; have := B2.out.size; omega)))
      have X1 := Lib.hid (RowAt_below (RowAt_alloc (RowAt_below RV.out B2.out) _) hb3)
      have X2 := Lib.hid (RowAt_below (RowAt_alloc R2.out _) hb3)
      clear hb3
      go_wp2_with fail
      refine (prog_least _ _ L (capsL L num den flows) (-1) _ X1.out X2.out HM.out (caps_len L num den flows) HBe.out).mono ?_
      rintro e w4 ⟨rfl, hb4⟩
      have B4 := B3.out.trans (hb4.mono B3.out.size)
      clear hb4
      go_wp2
      (refine bodyPost_ret (v := .tuple #[.int .i64 0, .int .i64 9]) ?_ rfl ?_; (focus (first | (simp [results, Try.results24, go_sem]; done) | (simp [results, Try.results24, go_sem, *]; done))); exact ⟨rfl, (by repeat (first | (with_reducible exact Below.refl _ _) | (with_reducible assumption) | (with_reducible refine Below.drew ?_) | (with_reducible refine Below_drewN ?_) | (with_reducible refine Below.alloc ?_ (by first | omega | (simp; done) | (simp; omega)) _) | (with_reducible refine Below.setCell ?_ (by first | omega | (simp; done) | (simp; omega)) _) | (with_reducible refine Below.trans ?_ (Below.mono (by assumption) (by first | omega | (simp; done) | (simp; omega))))))⟩)
end Go.Proofs.Ytjfnnbbnkcdbcaa

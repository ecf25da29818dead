/- table.Get and usherref.FlowGot: their contracts. -/
import Derived.Test.YtbemdijjdeimgaaTabFault
namespace Go.Proofs.Ytbemdijjdeimgaa
open Go.RowKit

/-- P5.4: what Get answers: a slot and a number. -/
def GetRes (X : List Sl) (sl gn : Int) (o : Sl) (code : Int) : Prop :=
  (¬ TabMay X ∧ o = Sl.zero ∧ code = 6) ∨ (TabMay X ∧ (sl < 0 ∨ (0 ≤ sl ∧ (X.length : Int) ≤ sl)) ∧ o = Sl.zero ∧ code = 8) ∨
  (TabMay X ∧ ∃ i : Nat, i < X.length ∧ sl = i ∧ (((X.getD i Sl.zero).used = true ∧ (X.getD i Sl.zero).gen = gn ∧ o = X.getD i Sl.zero ∧ code = 0) ∨
    (((X.getD i Sl.zero).used = false ∨ ((X.getD i Sl.zero).used = true ∧ (X.getD i Sl.zero).gen ≠ gn)) ∧ o = Sl.zero ∧ code = 10)))
theorem GetRes_total (X : List Sl) (sl gn : Int) : ∃ o code, GetRes X sl gn o code := by
  by_cases h : TabMay X
  · by_cases h2 : sl < 0 ∨ (0 ≤ sl ∧ (X.length : Int) ≤ sl)
    · exact ⟨_, _, Or.inr (Or.inl ⟨h, h2, rfl, rfl⟩)⟩
    · obtain ⟨i, rfl⟩ := Int.eq_ofNat_of_zero_le (by omega : 0 ≤ sl)
      by_cases h3 : (X.getD i Sl.zero).used = true ∧ (X.getD i Sl.zero).gen = gn
      · exact ⟨_, _, Or.inr (Or.inr ⟨h, i, by omega, rfl, Or.inl ⟨h3.1, h3.2, rfl, rfl⟩⟩)⟩
      · refine ⟨_, _, Or.inr (Or.inr ⟨h, i, by omega, rfl, Or.inr ⟨?_, rfl, rfl⟩⟩)⟩
        cases hu : (X.getD i Sl.zero).used with
        | false => exact Or.inl rfl
        | true => exact Or.inr ⟨rfl, fun hg => h3 ⟨hu, hg⟩⟩
  · exact ⟨_, _, Or.inl ⟨h, rfl, rfl⟩⟩

set_option maxHeartbeats 4000000 in
set_option maxRecDepth 100000 in
theorem prog_Get (X : List Sl) (sl gn : Int) (o : Sl) (code : Int) (v : Value) (w : World) (r : RowAt w 4 v (X.map Sl.cells)) (h : GetRes X sl gn o code) :
    Calls Try.prog 9 #[.agg #[v], .agg #[.int .i64 sl, .int .i64 gn]] w fun e w' => e = .returned (.tuple #[.agg #[.int .i64 o.gen, .bool o.used, .int .i64 o.key, .int .i64 o.backend], .int .i64 code]) ∧ Below w.heap.size w w' := by
  have R := Lib.hid r
  obtain ⟨a, c, rfl, l, m, n, p⟩ := RowAt_fn Sl.zero r
  clear r
  rcases h with ⟨h, rfl, rfl⟩ | ⟨h, h2, rfl, rfl⟩ | ⟨h, i, hi, rfl, hc⟩
  · have H := Lib.hid h
    clear h l m n p
    go_enter Try.func9, Try.ntmps9
    go_wp2_with (go_at_call 25; refine (tabCheck_bad _ X _ (RowAt_alloc (RowAt_alloc (RowAt_alloc R.out _) _) _) H.out).mono ?_; rintro e w1 ⟨rfl, hb1⟩; obtain ⟨hc1, hf1⟩ := bcell hb1; have hz1 := blt hb1; have hy1 := hb1.size; (try simp at hy1))
    (refine bodyPost_ret (v := .tuple #[.agg #[.int .i64 0, .bool false, .int .i64 0, .int .i64 0], .int .i64 6]) ?_ rfl ?_; (focus (first | (simp [results, Try.results9, go_sem]; done) | (simp [results, Try.results9, go_sem, *]; done))); exact ⟨rfl, (by repeat (first | (with_reducible exact Below.refl _ _) | (with_reducible assumption) | (with_reducible refine Below.drew ?_) | (with_reducible refine Below_drewN ?_) | (with_reducible refine Below.alloc ?_ (by first | omega | (simp; done) | (simp; omega)) _) | (with_reducible refine Below.setCell ?_ (by first | omega | (simp; done) | (simp; omega)) _) | (with_reducible refine Below.trans ?_ (Below.mono (by assumption) (by first | omega | (simp; done) | (simp; omega))))))⟩)
  · have H := Lib.hid h
    have hX : X.length ≤ 40 := h.2.1
    clear h l m n p
    rcases h2 with h2 | ⟨h2, h3⟩
    all_goals
      go_enter Try.func9, Try.ntmps9
      go_wp2_with (go_at_call 25; refine (tabCheck_ok _ X _ (RowAt_alloc (RowAt_alloc (RowAt_alloc R.out _) _) _) H.out).mono ?_; rintro e w1 ⟨rfl, hb1⟩; obtain ⟨hc1, hf1⟩ := bcell hb1; have hz1 := blt hb1; have hy1 := hb1.size; (try simp at hy1))
      (refine bodyPost_ret (v := .tuple #[.agg #[.int .i64 0, .bool false, .int .i64 0, .int .i64 0], .int .i64 8]) ?_ rfl ?_; (focus (first | (simp [results, Try.results9, go_sem]; done) | (simp [results, Try.results9, go_sem, *]; done))); exact ⟨rfl, (by repeat (first | (with_reducible exact Below.refl _ _) | (with_reducible assumption) | (with_reducible refine Below.drew ?_) | (with_reducible refine Below_drewN ?_) | (with_reducible refine Below.alloc ?_ (by first | omega | (simp; done) | (simp; omega)) _) | (with_reducible refine Below.setCell ?_ (by first | omega | (simp; done) | (simp; omega)) _) | (with_reducible refine Below.trans ?_ (Below.mono (by assumption) (by first | omega | (simp; done) | (simp; omega))))))⟩)
  · have H := Lib.hid h
    have hX : X.length ≤ 40 := h.2.1
    obtain ⟨b0, o0, rfl, hb0, q⟩ := p (by intro hX; rw [hX] at hi; simp at hi)
    have hi' : (i : Int) < (X.length : Int) := by omega
    obtain ⟨s, hs⟩ : ∃ s, s = X.getD i Sl.zero := ⟨_, rfl⟩
    rw [← hs] at hc
    have hold : ∀ j, j < 4 → w.cell? ⟨b0, o0 + i * 4 + j, none⟩ = s.cells[j]? := fun j hj => by rw [hs]; exact q i j hi hj
    have a0 := hold 0 (by omega)
    have a1 := hold 1 (by omega)
    have a2 := hold 2 (by omega)
    have a3 := hold 3 (by omega)
    clear hold hs q p h l m n
    obtain ⟨g, u, ky, b⟩ := s
    simp only [Sl.cells, List.getElem?_cons_zero, List.getElem?_cons_succ, Nat.add_zero] at a0 a1 a2 a3 hc
    rcases hc with ⟨rfl, rfl, rfl, rfl⟩ | ⟨hc, rfl, rfl⟩
    · go_enter Try.func9, Try.ntmps9
      go_wp2_with fail
      refine (tabCheck_ok _ X _ (RowAt_alloc (RowAt_alloc (RowAt_alloc R.out _) _) _) H.out).mono ?_
      rintro e w1 ⟨rfl, hb1⟩
      obtain ⟨hc1, hf1⟩ := bcell hb1
      have hz1 := blt hb1
      have hy1 := hb1.size
      simp at hy1
      have hb2 : b0 < w.heap.size + 1 := by omega
      have hb3 : b0 < w.heap.size + 1 + 1 := by omega
      have hb4 : b0 < w.heap.size + 1 + 1 + 1 := by omega
      go_wp2
      (refine bodyPost_ret (v := .tuple #[.agg #[.int .i64 g, .bool true, .int .i64 ky, .int .i64 b], .int .i64 0]) ?_ rfl ?_; (focus (first | (simp [results, Try.results9, go_sem]; done) | (simp [results, Try.results9, go_sem, *]; done))); exact ⟨rfl, (by repeat (first | (with_reducible exact Below.refl _ _) | (with_reducible assumption) | (with_reducible refine Below.drew ?_) | (with_reducible refine Below_drewN ?_) | (with_reducible refine Below.alloc ?_ (by first | omega | (simp; done) | (simp; omega)) _) | (with_reducible refine Below.setCell ?_ (by first | omega | (simp; done) | (simp; omega)) _) | (with_reducible refine Below.trans ?_ (Below.mono (by assumption) (by first | omega | (simp; done) | (simp; omega))))))⟩)
    · rcases hc with rfl | ⟨rfl, hg⟩
      · go_enter Try.func9, Try.ntmps9
        go_wp2_with fail
        refine (tabCheck_ok _ X _ (RowAt_alloc (RowAt_alloc (RowAt_alloc R.out _) _) _) H.out).mono ?_
        rintro e w1 ⟨rfl, hb1⟩
        obtain ⟨hc1, hf1⟩ := bcell hb1
        have hz1 := blt hb1
        have hy1 := hb1.size
        simp at hy1
        have hb2 : b0 < w.heap.size + 1 := by omega
        have hb3 : b0 < w.heap.size + 1 + 1 := by omega
        have hb4 : b0 < w.heap.size + 1 + 1 + 1 := by omega
        go_wp2
        (refine bodyPost_ret (v := .tuple #[.agg #[.int .i64 0, .bool false, .int .i64 0, .int .i64 0], .int .i64 10]) ?_ rfl ?_; (focus (first | (simp [results, Try.results9, go_sem]; done) | (simp [results, Try.results9, go_sem, *]; done))); exact ⟨rfl, (by repeat (first | (with_reducible exact Below.refl _ _) | (with_reducible assumption) | (with_reducible refine Below.drew ?_) | (with_reducible refine Below_drewN ?_) | (with_reducible refine Below.alloc ?_ (by first | omega | (simp; done) | (simp; omega)) _) | (with_reducible refine Below.setCell ?_ (by first | omega | (simp; done) | (simp; omega)) _) | (with_reducible refine Below.trans ?_ (Below.mono (by assumption) (by first | omega | (simp; done) | (simp; omega))))))⟩)
      · have hd : (g == gn) = false := by simpa using hg
        clear hg
        go_enter Try.func9, Try.ntmps9
        go_wp2_with fail
        refine (tabCheck_ok _ X _ (RowAt_alloc (RowAt_alloc (RowAt_alloc R.out _) _) _) H.out).mono ?_
        rintro e w1 ⟨rfl, hb1⟩
        obtain ⟨hc1, hf1⟩ := bcell hb1
        have hz1 := blt hb1
        have hy1 := hb1.size
        simp at hy1
        have hb2 : b0 < w.heap.size + 1 := by omega
        have hb3 : b0 < w.heap.size + 1 + 1 := by omega
        have hb4 : b0 < w.heap.size + 1 + 1 + 1 := by omega
        go_wp2
        (refine bodyPost_ret (v := .tuple #[.agg #[.int .i64 0, .bool false, .int .i64 0, .int .i64 0], .int .i64 10]) ?_ rfl ?_; (focus (first | (simp [results, Try.results9, go_sem]; done) | (simp [results, Try.results9, go_sem, *]; done))); exact ⟨rfl, (by repeat (first | (with_reducible exact Below.refl _ _) | (with_reducible assumption) | (with_reducible refine Below.drew ?_) | (with_reducible refine Below_drewN ?_) | (with_reducible refine Below.alloc ?_ (by first | omega | (simp; done) | (simp; omega)) _) | (with_reducible refine Below.setCell ?_ (by first | omega | (simp; done) | (simp; omega)) _) | (with_reducible refine Below.trans ?_ (Below.mono (by assumption) (by first | omega | (simp; done) | (simp; omega))))))⟩)
end Go.Proofs.Ytbemdijjdeimgaa

/- usherref.FlowGot: its contract. -/
import Derived.Test.YtbemdijjdeimgaaTabGet
namespace Go.Proofs.Ytbemdijjdeimgaa
open Go.RowKit
set_option maxHeartbeats 4000000 in
set_option maxRecDepth 100000 in
theorem ref_FlowGot (X : List Sl) (sl gn : Int) (o : Sl) (code : Int) (v : Value) (w : World) (r : RowAt w 4 v (X.map Sl.cells)) (h : GetRes X sl gn o code) :
    Calls Try.prog 11 #[.agg #[v], .agg #[.int .i64 sl, .int .i64 gn]] w fun e w' => e = .returned (.tuple #[.agg #[.int .i64 o.gen, .bool o.used, .int .i64 o.key, .int .i64 o.backend], .int .i64 code]) ∧ Below w.heap.size w w' := by
  have R := Lib.hid r
  obtain ⟨a, c, rfl, l, m, n, p⟩ := RowAt_fn Sl.zero r
  clear r
  rcases h with ⟨h, rfl, rfl⟩ | ⟨h, h2, rfl, rfl⟩ | ⟨h, i, hi, rfl, hc⟩
  · have H := Lib.hid h
    clear h l m n p
    go_enter Try.func11, Try.ntmps11
    go_wp2_with (first | (go_at_call 26; refine (tabFault_bad _ X _ (RowAt_alloc (RowAt_alloc (RowAt_alloc R.out _) _) _) H.out).mono ?_; rintro e w1 ⟨rfl, hb1⟩; obtain ⟨hc1, hf1⟩ := bcell hb1; have hz1 := blt hb1; have hy1 := hb1.size; (try simp at hy1)) | (go_at_call 27; first | (refine (In_yes _ _ _ _ (by omega) (by omega)).mono ?_; rintro e w' ⟨rfl, rfl⟩) | (refine (In_no _ _ _ _ (by omega)).mono ?_; rintro e w' ⟨rfl, rfl⟩)))
    (refine bodyPost_ret (v := .tuple #[.agg #[.int .i64 0, .bool false, .int .i64 0, .int .i64 0], .int .i64 6]) ?_ rfl ?_; (focus (first | (simp [results, Try.results11, go_sem]; done) | (simp [results, Try.results11, go_sem, *]; done))); exact ⟨rfl, (by repeat (first | (with_reducible exact Below.refl _ _) | (with_reducible assumption) | (with_reducible refine Below.drew ?_) | (with_reducible refine Below_drewN ?_) | (with_reducible refine Below.alloc ?_ (by first | omega | (simp; done) | (simp; omega)) _) | (with_reducible refine Below.setCell ?_ (by first | omega | (simp; done) | (simp; omega)) _) | (with_reducible refine Below.trans ?_ (Below.mono (by assumption) (by first | omega | (simp; done) | (simp; omega))))))⟩)
  · have H := Lib.hid h
    have hX : X.length ≤ 40 := h.2.1
    clear h l m n p
    rcases h2 with h2 | ⟨h2, h3⟩
    all_goals
      go_enter Try.func11, Try.ntmps11
      go_wp2_with (first | (go_at_call 26; refine (tabFault_ok _ X _ (RowAt_alloc (RowAt_alloc (RowAt_alloc R.out _) _) _) H.out).mono ?_; rintro e w1 ⟨rfl, hb1⟩; obtain ⟨hc1, hf1⟩ := bcell hb1; have hz1 := blt hb1; have hy1 := hb1.size; (try simp at hy1)) | (go_at_call 27; first | (refine (In_yes _ _ _ _ (by omega) (by omega)).mono ?_; rintro e w' ⟨rfl, rfl⟩) | (refine (In_no _ _ _ _ (by omega)).mono ?_; rintro e w' ⟨rfl, rfl⟩)))
      (refine bodyPost_ret (v := .tuple #[.agg #[.int .i64 0, .bool false, .int .i64 0, .int .i64 0], .int .i64 8]) ?_ rfl ?_; (focus (first | (simp [results, Try.results11, go_sem]; done) | (simp [results, Try.results11, go_sem, *]; done))); exact ⟨rfl, (by repeat (first | (with_reducible exact Below.refl _ _) | (with_reducible assumption) | (with_reducible refine Below.drew ?_) | (with_reducible refine Below_drewN ?_) | (with_reducible refine Below.alloc ?_ (by first | omega | (simp; done) | (simp; omega)) _) | (with_reducible refine Below.setCell ?_ (by first | omega | (simp; done) | (simp; omega)) _) | (with_reducible refine Below.trans ?_ (Below.mono (by assumption) (by first | omega | (simp; done) | (simp; omega))))))⟩)
  · have H := Lib.hid h
    have hX : X.length ≤ 40 := h.2.1
    obtain ⟨b0, o0, rfl, hb0, q⟩ := p (by intro hX; rw [hX] at hi; simp at hi)
    have hi' : (i : Int) < (X.length : Int) := by omega
    obtain ⟨s, hs⟩ : ∃ s, s = X.getD i Sl.zero := ⟨_, rfl⟩
    rw [← hs] at hc
    have hold : ∀ j, j < 4 → w.cell? ⟨b0, o0 + i * 4 + j, none⟩ = s.cells[j]? := fun j hj => by rw [hs]; exact q i j hi hj
    have a0 := hold 0 (by omega)
    have a1 := hold 1 (by omega)
    have a2 := hold 2 (by omega)
    have a3 := hold 3 (by omega)
    clear hold hs q p h l m n
    obtain ⟨g, u, ky, b⟩ := s
    simp only [Sl.cells, List.getElem?_cons_zero, List.getElem?_cons_succ, Nat.add_zero] at a0 a1 a2 a3 hc
    rcases hc with ⟨rfl, rfl, rfl, rfl⟩ | ⟨hc, rfl, rfl⟩
    · go_enter Try.func11, Try.ntmps11
      go_wp2_with fail
      refine (tabFault_ok _ X _ (RowAt_alloc (RowAt_alloc (RowAt_alloc R.out _) _) _) H.out).mono ?_
      rintro e w1 ⟨rfl, hb1⟩
      obtain ⟨hc1, hf1⟩ := bcell hb1
      have hz1 := blt hb1
      have hy1 := hb1.size
      simp at hy1
      have hb2 : b0 < w.heap.size + 1 := by omega
      have hb3 : b0 < w.heap.size + 1 + 1 := by omega
      have hb4 : b0 < w.heap.size + 1 + 1 + 1 := by omega
      go_wp2_with (first | (go_at_call 27; first | (refine (In_yes _ _ _ _ (by omega) (by omega)).mono ?_; rintro e w' ⟨rfl, rfl⟩) | (refine (In_no _ _ _ _ (by omega)).mono ?_; rintro e w' ⟨rfl, rfl⟩)))
      (refine bodyPost_ret (v := .tuple #[.agg #[.int .i64 g, .bool true, .int .i64 ky, .int .i64 b], .int .i64 0]) ?_ rfl ?_; (focus (first | (simp [results, Try.results11, go_sem]; done) | (simp [results, Try.results11, go_sem, *]; done))); exact ⟨rfl, (by repeat (first | (with_reducible exact Below.refl _ _) | (with_reducible assumption) | (with_reducible refine Below.drew ?_) | (with_reducible refine Below_drewN ?_) | (with_reducible refine Below.alloc ?_ (by first | omega | (simp; done) | (simp; omega)) _) | (with_reducible refine Below.setCell ?_ (by first | omega | (simp; done) | (simp; omega)) _) | (with_reducible refine Below.trans ?_ (Below.mono (by assumption) (by first | omega | (simp; done) | (simp; omega))))))⟩)
    · rcases hc with rfl | ⟨rfl, hg⟩
      · go_enter Try.func11, Try.ntmps11
        go_wp2_with fail
        refine (tabFault_ok _ X _ (RowAt_alloc (RowAt_alloc (RowAt_alloc R.out _) _) _) H.out).mono ?_
        rintro e w1 ⟨rfl, hb1⟩
        obtain ⟨hc1, hf1⟩ := bcell hb1
        have hz1 := blt hb1
        have hy1 := hb1.size
        simp at hy1
        have hb2 : b0 < w.heap.size + 1 := by omega
        have hb3 : b0 < w.heap.size + 1 + 1 := by omega
        have hb4 : b0 < w.heap.size + 1 + 1 + 1 := by omega
        go_wp2_with (first | (go_at_call 27; first | (refine (In_yes _ _ _ _ (by omega) (by omega)).mono ?_; rintro e w' ⟨rfl, rfl⟩) | (refine (In_no _ _ _ _ (by omega)).mono ?_; rintro e w' ⟨rfl, rfl⟩)))
        (refine bodyPost_ret (v := .tuple #[.agg #[.int .i64 0, .bool false, .int .i64 0, .int .i64 0], .int .i64 10]) ?_ rfl ?_; (focus (first | (simp [results, Try.results11, go_sem]; done) | (simp [results, Try.results11, go_sem, *]; done))); exact ⟨rfl, (by repeat (first | (with_reducible exact Below.refl _ _) | (with_reducible assumption) | (with_reducible refine Below.drew ?_) | (with_reducible refine Below_drewN ?_) | (with_reducible refine Below.alloc ?_ (by first | omega | (simp; done) | (simp; omega)) _) | (with_reducible refine Below.setCell ?_ (by first | omega | (simp; done) | (simp; omega)) _) | (with_reducible refine Below.trans ?_ (Below.mono (by assumption) (by first | omega | (simp; done) | (simp; omega))))))⟩)
      · have hd : (g == gn) = false := by simpa using hg
        clear hg
        go_enter Try.func11, Try.ntmps11
        go_wp2_with fail
        refine (tabFault_ok _ X _ (RowAt_alloc (RowAt_alloc (RowAt_alloc R.out _) _) _) H.out).mono ?_
        rintro e w1 ⟨rfl, hb1⟩
        obtain ⟨hc1, hf1⟩ := bcell hb1
        have hz1 := blt hb1
        have hy1 := hb1.size
        simp at hy1
        have hb2 : b0 < w.heap.size + 1 := by omega
        have hb3 : b0 < w.heap.size + 1 + 1 := by omega
        have hb4 : b0 < w.heap.size + 1 + 1 + 1 := by omega
        go_wp2_with (first | (go_at_call 27; first | (refine (In_yes _ _ _ _ (by omega) (by omega)).mono ?_; rintro e w' ⟨rfl, rfl⟩) | (refine (In_no _ _ _ _ (by omega)).mono ?_; rintro e w' ⟨rfl, rfl⟩)))
        (refine bodyPost_ret (v := .tuple #[.agg #[.int .i64 0, .bool false, .int .i64 0, .int .i64 0], .int .i64 10]) ?_ rfl ?_; (focus (first | (simp [results, Try.results11, go_sem]; done) | (simp [results, Try.results11, go_sem, *]; done))); exact ⟨rfl, (by repeat (first | (with_reducible exact Below.refl _ _) | (with_reducible assumption) | (with_reducible refine Below.drew ?_) | (with_reducible refine Below_drewN ?_) | (with_reducible refine Below.alloc ?_ (by first | omega | (simp; done) | (simp; omega)) _) | (with_reducible refine Below.setCell ?_ (by first | omega | (simp; done) | (simp; omega)) _) | (with_reducible refine Below.trans ?_ (Below.mono (by assumption) (by first | omega | (simp; done) | (simp; omega))))))⟩)
end Go.Proofs.Ytbemdijjdeimgaa

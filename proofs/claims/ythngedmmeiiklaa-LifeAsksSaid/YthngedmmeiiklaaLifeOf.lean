/- life.Of and usherref.LifeOf: their contracts. -/
import Derived.Test.YthngedmmeiiklaaLifeOpen
import Derived.Test.YthngedmmeiiklaaLifeFlt
namespace Go.Proofs.Ythngedmmeiiklaa
open Go.RowKit

/-- What Of answers (P11.7). -/
def LoAns (L : List Lf) (R : List Rq) (b : Int) (x : Lf) (code : Int) : Prop := (¬ BkMay L R ∧ x = Lf.zero ∧ code = 6) ∨ (BkMay L R ∧ idxOf (lfIs b) L = -1 ∧ x = Lf.zero ∧ code = 8) ∨ (BkMay L R ∧ (∃ i : Nat, i < L.length ∧ idxOf (lfIs b) L = i ∧ x = L.getD i Lf.zero) ∧ code = 0)
theorem LoAns_total (L : List Lf) (R : List Rq) (b : Int) : ∃ x code, LoAns L R b x code := by
  by_cases h : BkMay L R
  · rcases idxOf_cases (lfIs b) L Lf.zero with ⟨hi, _⟩ | ⟨i, hi, he, _⟩
    · exact ⟨_, _, Or.inr (Or.inl ⟨h, hi, rfl, rfl⟩)⟩
    · exact ⟨_, _, Or.inr (Or.inr ⟨h, ⟨i, hi, he, rfl⟩, rfl⟩)⟩
  · exact ⟨_, _, Or.inl ⟨h, rfl, rfl⟩⟩

set_option maxHeartbeats 4000000 in
set_option maxRecDepth 100000 in
theorem prog_LOf (vl vr : Value) (L : List Lf) (R : List Rq) (b : Int) (x : Lf) (code : Int) (w : World) (hl : RowAt w 6 vl (L.map Lf.cells)) (hr : RowAt w 5 vr (R.map Rq.cells)) (h : LoAns L R b x code) :
    Calls Try.prog 19 #[.agg #[vl, vr], .int .i64 b] w fun e w' => e = .returned (.tuple #[Lf.agg x, .int .i64 code]) ∧ Below w.heap.size w w' := by
  have HL := Lib.hid hl
  have HR := Lib.hid hr
  obtain ⟨a, c, rfl, _⟩ := RowAt_shape hl
  obtain ⟨a', c', rfl, _⟩ := RowAt_shape hr
  clear hl hr
  rcases h with ⟨h, rfl, rfl⟩ | ⟨h, hi, rfl, rfl⟩ | ⟨h, ⟨i, hi, he, rfl⟩, rfl⟩
  · have H := Lib.hid h
    clear h
    go_enter Try.func19, Try.ntmps19
    go_wp2_with fail
    refine (prog_open_bad _ _ L R _ (RowAt_alloc (RowAt_alloc HL.out _) _) (RowAt_alloc (RowAt_alloc HR.out _) _) H.out).mono ?_
    rintro e w1 ⟨rfl, hb1⟩
    obtain ⟨hc1, hf1⟩ := bcell hb1; have hz1 := blt hb1; have hy1 := hb1.size; simp at hy1; have m0 : w.heap.size < w1.heap.size := (by omega); have m1 : w.heap.size + 1 < w1.heap.size := (by omega); have hN1 : w1.heap[w.heap.size + 1]? = some (.cells #[.int .i64 0, .int .i64 0, .int .i64 0, .int .i64 0, .int .i64 0, .int .i64 0] 44 (0, 0)) := blk_below hb1 (heap_at (w := World.alloc _ _) _ (by simp)) (by simp)
    go_wp2
    (refine bodyPost_ret (v := .tuple #[.agg #[.int .i64 0, .int .i64 0, .int .i64 0, .int .i64 0, .int .i64 0, .int .i64 0], .int .i64 6]) ?_ rfl ?_; (focus (first | (simp [results, Try.results19, go_sem]; done) | (simp [results, Try.results19, go_sem, *]; done))); exact ⟨rfl, (by repeat (first | (with_reducible exact Below.refl _ _) | (with_reducible assumption) | (with_reducible refine Below.drew ?_) | (with_reducible refine Below_drewN ?_) | (with_reducible refine Below.alloc ?_ (by first | omega | (simp; done) | (simp; omega)) _) | (with_reducible refine Below.setCell ?_ (by first | omega | (simp; done) | (simp; omega)) _) | (with_reducible refine Below.trans ?_ (Below.mono (by assumption) (by first | omega | (simp; done) | (simp; omega))))))⟩)
  · have H := Lib.hid h
    have HI := Lib.hid hi
    have h12 := h.1
    clear h hi
    go_enter Try.func19, Try.ntmps19
    go_wp2_with fail
    refine (prog_open_ok _ _ L R _ (RowAt_alloc (RowAt_alloc HL.out _) _) (RowAt_alloc (RowAt_alloc HR.out _) _) H.out).mono ?_
    rintro e w1 ⟨p, v1, v2, rfl, K1, hb1⟩
    obtain ⟨hc1, hf1⟩ := bcell hb1; have hz1 := blt hb1; have hy1 := hb1.size; simp at hy1; have m0 : w.heap.size < w1.heap.size := (by omega); have m1 : w.heap.size + 1 < w1.heap.size := (by omega); have hN1 : w1.heap[w.heap.size + 1]? = some (.cells #[.int .i64 0, .int .i64 0, .int .i64 0, .int .i64 0, .int .i64 0, .int .i64 0] 44 (0, 0)) := blk_below hb1 (heap_at (w := World.alloc _ _) _ (by simp)) (by simp)
    have HK := Lib.hid K1
    have hs := owns_shape K1.o1
    have HV : Hid (fdV v1 (idxOf (lfIs b) L) = .pointer none) := by obtain ⟨a, cap, rfl, _⟩ := hs; show fdV _ _ = _; rw [HI.out]; cases a <;> simp [fdV]
    clear K1 hs
    go_wp2_with fail
    refine (prog_find _ p v1 v2 L R b _ HK.out h12).mono ?_
    rintro e w2 ⟨rfl, hb2⟩
    rw [HV.out]
    obtain ⟨hc2, hf2⟩ := bcell hb2
    have hz2 := blt hb2
    have hy2 := hb2.size
    have m2 : w.heap.size < w2.heap.size := by omega
    have m3 : w.heap.size + 1 < w2.heap.size := by omega
    have hN : w2.heap[w.heap.size + 1]? = some (.cells #[.int .i64 0, .int .i64 0, .int .i64 0, .int .i64 0, .int .i64 0, .int .i64 0] 44 (0, 0)) := blk_below hb2 hN1 (by omega)
    have d0 := blk_cell hN 0
    have g0 := blk_free hN 0
    have d1 := blk_cell hN 1
    have g1 := blk_free hN 1
    have d2 := blk_cell hN 2
    have g2 := blk_free hN 2
    have d3 := blk_cell hN 3
    have g3 := blk_free hN 3
    have d4 := blk_cell hN 4
    have g4 := blk_free hN 4
    have d5 := blk_cell hN 5
    have g5 := blk_free hN 5
    simp at d0 d1 d2 d3 d4 d5
    clear hN hN1
    go_wp2
    (refine bodyPost_ret (v := .tuple #[.agg #[.int .i64 0, .int .i64 0, .int .i64 0, .int .i64 0, .int .i64 0, .int .i64 0], .int .i64 8]) ?_ rfl ?_; (focus (first | (simp [results, Try.results19, go_sem]; done) | (simp [results, Try.results19, go_sem, *]; done))); exact ⟨rfl, (by repeat (first | (with_reducible exact Below.refl _ _) | (with_reducible assumption) | (with_reducible refine Below.drew ?_) | (with_reducible refine Below_drewN ?_) | (with_reducible refine Below.alloc ?_ (by first | omega | (simp; done) | (simp; omega)) _) | (with_reducible refine Below.setCell ?_ (by first | omega | (simp; done) | (simp; omega)) _) | (with_reducible refine Below.trans ?_ (Below.mono (by assumption) (by first | omega | (simp; done) | (simp; omega))))))⟩)
  · have H := Lib.hid h
    have HI := Lib.hid he
    have h12 := h.1
    clear h he
    obtain ⟨s, hs⟩ : ∃ s, s = L.getD i Lf.zero := ⟨_, rfl⟩
    rw [← hs]
    have HS := Lib.hid hs
    clear hs
    obtain ⟨bk, st, wt, si, un, rq⟩ := s
    go_enter Try.func19, Try.ntmps19
    go_wp2_with fail
    refine (prog_open_ok _ _ L R _ (RowAt_alloc (RowAt_alloc HL.out _) _) (RowAt_alloc (RowAt_alloc HR.out _) _) H.out).mono ?_
    rintro e w1 ⟨p, v1, v2, rfl, K1, hb1⟩
    obtain ⟨hc1, hf1⟩ := bcell hb1; have hz1 := blt hb1; have hy1 := hb1.size; simp at hy1; have m0 : w.heap.size < w1.heap.size := (by omega); have m1 : w.heap.size + 1 < w1.heap.size := (by omega); have hN1 : w1.heap[w.heap.size + 1]? = some (.cells #[.int .i64 0, .int .i64 0, .int .i64 0, .int .i64 0, .int .i64 0, .int .i64 0] 44 (0, 0)) := blk_below hb1 (heap_at (w := World.alloc _ _) _ (by simp)) (by simp)
    obtain ⟨g, cap, rfl, hg1, hg2⟩ := K1.addr hi
    have HK := Lib.hid K1
    have HV : Hid (fdV (.slice (some ⟨g, 0, none⟩) L.length cap) (idxOf (lfIs b) L) = .pointer (some ⟨g, i * 6, none⟩)) := by show fdV _ _ = _; rw [HI.out]; simp [fdV]
    clear K1
    go_wp2_with fail
    refine (prog_find _ p _ v2 L R b _ HK.out h12).mono ?_
    rintro e w2 ⟨rfl, hb2⟩
    rw [HV.out]
    obtain ⟨hc2, hf2⟩ := bcell hb2
    have hz2 := blt hb2
    have hy2 := hb2.size
    have m2 : w.heap.size < w2.heap.size := by omega
    have m3 : w.heap.size + 1 < w2.heap.size := by omega
    have hN : w2.heap[w.heap.size + 1]? = some (.cells #[.int .i64 0, .int .i64 0, .int .i64 0, .int .i64 0, .int .i64 0, .int .i64 0] 44 (0, 0)) := blk_below hb2 hN1 (by omega)
    have d0 := blk_cell hN 0
    have g0 := blk_free hN 0
    have d1 := blk_cell hN 1
    have g1 := blk_free hN 1
    have d2 := blk_cell hN 2
    have g2 := blk_free hN 2
    have d3 := blk_cell hN 3
    have g3 := blk_free hN 3
    have d4 := blk_cell hN 4
    have g4 := blk_free hN 4
    have d5 := blk_cell hN 5
    have g5 := blk_free hN 5
    simp at d0 d1 d2 d3 d4 d5
    clear hN hN1
    have K2 := HK.out.below hb2
    have q : ∀ j, j < 6 → w2.cell? ⟨g, i * 6 + j, none⟩ = ((L.getD i Lf.zero).cells)[j]? := fun j hj => (K2.cell hi hj).1
    rw [← HS.out] at q
    have q0 := q 0 (by omega)
    have q1 := q 1 (by omega)
    have q2 := q 2 (by omega)
    have q3 := q 3 (by omega)
    have q4 := q 4 (by omega)
    have q5 := q 5 (by omega)
    simp only [Lf.cells, List.getElem?_cons_zero, List.getElem?_cons_succ, Nat.add_zero] at q0 q1 q2 q3 q4 q5
    clear q K2
    go_wp2
    (refine bodyPost_ret (v := .tuple #[.agg #[.int .i64 bk, .int .i64 st, .int .i64 wt, .int .i64 si, .int .i64 un, .int .i64 rq], .int .i64 0]) ?_ rfl ?_; (focus (first | (simp [results, Try.results19, go_sem]; done) | (simp [results, Try.results19, go_sem, *]; done))); exact ⟨rfl, (by repeat (first | (with_reducible exact Below.refl _ _) | (with_reducible assumption) | (with_reducible refine Below.drew ?_) | (with_reducible refine Below_drewN ?_) | (with_reducible refine Below.alloc ?_ (by first | omega | (simp; done) | (simp; omega)) _) | (with_reducible refine Below.setCell ?_ (by first | omega | (simp; done) | (simp; omega)) _) | (with_reducible refine Below.trans ?_ (Below.mono (by assumption) (by first | omega | (simp; done) | (simp; omega))))))⟩)

set_option maxHeartbeats 4000000 in
set_option maxRecDepth 100000 in
theorem ref_lifeAt (vl vr : Value) (L : List Lf) (b : Int) (w : World) (hl : RowAt w 6 vl (L.map Lf.cells)) (hn : L.length ≤ 12) :
    Calls Try.prog 32 #[.agg #[vl, vr], .int .i64 b] w fun e w' => e = .returned (.int .i64 (idxOf (lfIs b) L)) ∧ Below w.heap.size w w' := by
  obtain ⟨a, c, rfl, l, m, n, p⟩ := RowAt_fn Lf.zero hl
  have P := Lib.hid p
  clear hl p l m n
  go_enter Try.func32, Try.ntmps32
  go_wp2
  go_loopw [5] (fun i wr => ∃ k : Nat, k ≤ L.length ∧ i = .int .i64 k ∧ Below w.heap.size w wr ∧ w.heap.size < wr.heap.size ∧ wr.cell? ⟨w.heap.size, 0, none⟩ = some (.slice a L.length c) ∧ ∀ x ∈ L.take k, lfIs b x = false) (fun i _ => L.length - (intOf i).toNat)
  case atStart => exact ⟨0, Nat.zero_le _, rfl, (Below.refl _ _).alloc (Nat.le_refl _) _, by simp, by go_simp, fun x hx => by simp at hx⟩
  case round =>
    obtain ⟨k, hk, rfl, hb, hsz, c0, hall⟩ := hrel
    have HA := Lib.hid hall
    have HB := Lib.hid hb
    clear hall
    rcases (show k < L.length ∨ L.length = k by omega) with hlt | heq
    · have hlt' : (k : Int) < (L.length : Int) := by omega
      have p0 : (0 : Int) ≤ (k : Int) := by omega
      obtain ⟨b0, o0, rfl, hb0, q⟩ := P.out (by intro h; rw [h] at hlt; simp at hlt)
      obtain ⟨s, hs⟩ : ∃ s, s = L.getD k Lf.zero := ⟨_, rfl⟩
      have HS := Lib.hid hs
      have a0 : wr.cell? ⟨b0, o0 + k * 6, none⟩ = some (.int .i64 s.backend) := by
        have := q k 0 hlt (by omega)
        rw [Nat.add_zero] at this
        rw [hb.cell (p := ⟨b0, o0 + k * 6, none⟩) hb0, this, hs]; rfl
      clear hs q hb
      by_cases hid : s.backend = b
      · have hR : Hid (idxOf (lfIs b) L = k) := idxOf_hit hlt HS.out (by simp [lfIs, hid]) HA.out
        rw [hid] at a0
        clear hid
        go_wp2
        all_goals first | (go_ret; exact ⟨rI hR.out.symm, HB.out⟩) | (exfalso; first | omega | (simp at *; omega) | (simp at *; done))
      · have hid' : (s.backend == b) = false := by simpa using hid
        have HN := Lib.hid (idx_step hlt HS.out (by simpa [lfIs] using hid) HA.out)
        clear hid
        go_wp2
        go_roundw
        case rel => exact ⟨k + 1, by omega, by go_num, HB.out, hsz, c0, HN.out⟩
        case measure => simp [intOf]; omega
    · have hge : ¬ (k : Int) < (L.length : Int) := by omega
      have HE := Lib.hid (idxOf_none heq HA.out)
      clear heq hb HA
      go_wp2
      all_goals first | (go_ret; exact ⟨rI HE.out.symm, HB.out⟩) | (exfalso; first | omega | (simp at *; omega) | (simp at *; done))

set_option maxHeartbeats 4000000 in
set_option maxRecDepth 100000 in
theorem ref_LOf (vl vr : Value) (L : List Lf) (R : List Rq) (b : Int) (x : Lf) (code : Int) (w : World) (hl : RowAt w 6 vl (L.map Lf.cells)) (hr : RowAt w 5 vr (R.map Rq.cells)) (h : LoAns L R b x code) :
    Calls Try.prog 20 #[.agg #[vl, vr], .int .i64 b] w fun e w' => e = .returned (.tuple #[Lf.agg x, .int .i64 code]) ∧ Below w.heap.size w w' := by
  have HL := Lib.hid hl
  have HR := Lib.hid hr
  obtain ⟨a, c, rfl, l, m, n, pp⟩ := RowAt_fn Lf.zero hl
  have P := Lib.hid pp
  obtain ⟨a', c', rfl, _⟩ := RowAt_shape hr
  clear hl hr pp l m n
  rcases h with ⟨h, rfl, rfl⟩ | ⟨h, hi, rfl, rfl⟩ | ⟨h, ⟨i, hi, he, rfl⟩, rfl⟩
  · have H : Hid (BkCode L R 6) := Or.inr ⟨h, rfl⟩
    clear h
    go_enter Try.func20, Try.ntmps20
    go_wp2_with fail
    refine (ref_BookFault _ _ L R 6 _ (RowAt_alloc (RowAt_alloc HL.out _) _) (RowAt_alloc (RowAt_alloc HR.out _) _) H.out).mono ?_
    rintro e w1 ⟨rfl, hb1⟩
    obtain ⟨hc1, hf1⟩ := bcell hb1; have hz1 := blt hb1; have hy1 := hb1.size; simp at hy1; have m0 : w.heap.size < w1.heap.size := (by omega); have m1 : w.heap.size + 1 < w1.heap.size := (by omega); have hN1 : w1.heap[w.heap.size + 1]? = some (.cells #[.int .i64 0, .int .i64 0, .int .i64 0, .int .i64 0, .int .i64 0, .int .i64 0] 44 (0, 0)) := blk_below hb1 (heap_at (w := World.alloc _ _) _ (by simp)) (by simp)
    go_wp2
    (refine bodyPost_ret (v := .tuple #[.agg #[.int .i64 0, .int .i64 0, .int .i64 0, .int .i64 0, .int .i64 0, .int .i64 0], .int .i64 6]) ?_ rfl ?_; (focus (first | (simp [results, Try.results20, go_sem]; done) | (simp [results, Try.results20, go_sem, *]; done))); exact ⟨rfl, (by repeat (first | (with_reducible exact Below.refl _ _) | (with_reducible assumption) | (with_reducible refine Below.drew ?_) | (with_reducible refine Below_drewN ?_) | (with_reducible refine Below.alloc ?_ (by first | omega | (simp; done) | (simp; omega)) _) | (with_reducible refine Below.setCell ?_ (by first | omega | (simp; done) | (simp; omega)) _) | (with_reducible refine Below.trans ?_ (Below.mono (by assumption) (by first | omega | (simp; done) | (simp; omega))))))⟩)
  · have H : Hid (BkCode L R 0) := Or.inl ⟨h, rfl⟩
    have HI := Lib.hid hi
    have h12 := h.1
    clear h hi
    go_enter Try.func20, Try.ntmps20
    go_wp2_with fail
    refine (ref_BookFault _ _ L R 0 _ (RowAt_alloc (RowAt_alloc HL.out _) _) (RowAt_alloc (RowAt_alloc HR.out _) _) H.out).mono ?_
    rintro e w1 ⟨rfl, hb1⟩
    have RL := Lib.hid (RowAt_below (RowAt_alloc (RowAt_alloc HL.out _) _) hb1)
    obtain ⟨hc1, hf1⟩ := bcell hb1; have hz1 := blt hb1; have hy1 := hb1.size; simp at hy1; have m0 : w.heap.size < w1.heap.size := (by omega); have m1 : w.heap.size + 1 < w1.heap.size := (by omega); have hN1 : w1.heap[w.heap.size + 1]? = some (.cells #[.int .i64 0, .int .i64 0, .int .i64 0, .int .i64 0, .int .i64 0, .int .i64 0] 44 (0, 0)) := blk_below hb1 (heap_at (w := World.alloc _ _) _ (by simp)) (by simp)
    go_wp2_with fail
    refine (ref_lifeAt _ _ L b _ RL.out h12).mono ?_
    rintro e w2 ⟨rfl, hb2⟩
    rw [HI.out]
    obtain ⟨hc2, hf2⟩ := bcell hb2
    have hz2 := blt hb2
    have hy2 := hb2.size
    have m2 : w.heap.size < w2.heap.size := by omega
    have m3 : w.heap.size + 1 < w2.heap.size := by omega
    have hN : w2.heap[w.heap.size + 1]? = some (.cells #[.int .i64 0, .int .i64 0, .int .i64 0, .int .i64 0, .int .i64 0, .int .i64 0] 44 (0, 0)) := blk_below hb2 hN1 (by omega)
    have d0 := blk_cell hN 0
    have g0 := blk_free hN 0
    have d1 := blk_cell hN 1
    have g1 := blk_free hN 1
    have d2 := blk_cell hN 2
    have g2 := blk_free hN 2
    have d3 := blk_cell hN 3
    have g3 := blk_free hN 3
    have d4 := blk_cell hN 4
    have g4 := blk_free hN 4
    have d5 := blk_cell hN 5
    have g5 := blk_free hN 5
    simp at d0 d1 d2 d3 d4 d5
    clear hN hN1
    go_wp2
    (refine bodyPost_ret (v := .tuple #[.agg #[.int .i64 0, .int .i64 0, .int .i64 0, .int .i64 0, .int .i64 0, .int .i64 0], .int .i64 8]) ?_ rfl ?_; (focus (first | (simp [results, Try.results20, go_sem]; done) | (simp [results, Try.results20, go_sem, *]; done))); exact ⟨rfl, (by repeat (first | (with_reducible exact Below.refl _ _) | (with_reducible assumption) | (with_reducible refine Below.drew ?_) | (with_reducible refine Below_drewN ?_) | (with_reducible refine Below.alloc ?_ (by first | omega | (simp; done) | (simp; omega)) _) | (with_reducible refine Below.setCell ?_ (by first | omega | (simp; done) | (simp; omega)) _) | (with_reducible refine Below.trans ?_ (Below.mono (by assumption) (by first | omega | (simp; done) | (simp; omega))))))⟩)
  · have H : Hid (BkCode L R 0) := Or.inl ⟨h, rfl⟩
    have HI := Lib.hid he
    have h12 := h.1
    have hi' : (i : Int) < (L.length : Int) := by omega
    have p0 : (0 : Int) ≤ (i : Int) := by omega
    obtain ⟨b0, o0, rfl, hb0, q⟩ := P.out (by intro h; rw [h] at hi; simp at hi)
    clear h he
    obtain ⟨s, hs⟩ : ∃ s, s = L.getD i Lf.zero := ⟨_, rfl⟩
    rw [← hs]
    have HS := Lib.hid hs
    clear hs
    obtain ⟨bk, st, wt, si, un, rq⟩ := s
    go_enter Try.func20, Try.ntmps20
    go_wp2_with fail
    refine (ref_BookFault _ _ L R 0 _ (RowAt_alloc (RowAt_alloc HL.out _) _) (RowAt_alloc (RowAt_alloc HR.out _) _) H.out).mono ?_
    rintro e w1 ⟨rfl, hb1⟩
    have RL := Lib.hid (RowAt_below (RowAt_alloc (RowAt_alloc HL.out _) _) hb1)
    have B1 := Lib.hid ((((Below.refl w.heap.size w).alloc (Nat.le_refl _) _).alloc (by simp) _).trans (hb1.mono (by simp; omega)))
    obtain ⟨hc1, hf1⟩ := bcell hb1; have hz1 := blt hb1; have hy1 := hb1.size; simp at hy1; have m0 : w.heap.size < w1.heap.size := (by omega); have m1 : w.heap.size + 1 < w1.heap.size := (by omega); have hN1 : w1.heap[w.heap.size + 1]? = some (.cells #[.int .i64 0, .int .i64 0, .int .i64 0, .int .i64 0, .int .i64 0, .int .i64 0] 44 (0, 0)) := blk_below hb1 (heap_at (w := World.alloc _ _) _ (by simp)) (by simp)
    go_wp2_with fail
    refine (ref_lifeAt _ _ L b _ RL.out h12).mono ?_
    rintro e w2 ⟨rfl, hb2⟩
    rw [HI.out]
    have B2 := B1.out.trans (hb2.mono (by omega))
    obtain ⟨hc2, hf2⟩ := bcell hb2
    have hz2 := blt hb2
    have hy2 := hb2.size
    have m2 : w.heap.size < w2.heap.size := by omega
    have m3 : w.heap.size + 1 < w2.heap.size := by omega
    have hN : w2.heap[w.heap.size + 1]? = some (.cells #[.int .i64 0, .int .i64 0, .int .i64 0, .int .i64 0, .int .i64 0, .int .i64 0] 44 (0, 0)) := blk_below hb2 hN1 (by omega)
    have d0 := blk_cell hN 0
    have g0 := blk_free hN 0
    have d1 := blk_cell hN 1
    have g1 := blk_free hN 1
    have d2 := blk_cell hN 2
    have g2 := blk_free hN 2
    have d3 := blk_cell hN 3
    have g3 := blk_free hN 3
    have d4 := blk_cell hN 4
    have g4 := blk_free hN 4
    have d5 := blk_cell hN 5
    have g5 := blk_free hN 5
    simp at d0 d1 d2 d3 d4 d5
    clear hN hN1
    have hold : ∀ j, j < 6 → w2.cell? ⟨b0, o0 + i * 6 + j, none⟩ = ((L.getD i Lf.zero).cells)[j]? := fun j hj => by
      rw [B2.cell (p := ⟨b0, o0 + i * 6 + j, none⟩) hb0]; exact q i j hi hj
    rw [← HS.out] at hold
    have q0 := hold 0 (by omega)
    have q1 := hold 1 (by omega)
    have q2 := hold 2 (by omega)
    have q3 := hold 3 (by omega)
    have q4 := hold 4 (by omega)
    have q5 := hold 5 (by omega)
    simp only [Lf.cells, List.getElem?_cons_zero, List.getElem?_cons_succ, Nat.add_zero] at q0 q1 q2 q3 q4 q5
    clear hold q B2
    go_wp2
    (refine bodyPost_ret (v := .tuple #[.agg #[.int .i64 bk, .int .i64 st, .int .i64 wt, .int .i64 si, .int .i64 un, .int .i64 rq], .int .i64 0]) ?_ rfl ?_; (focus (first | (simp [results, Try.results20, go_sem]; done) | (simp [results, Try.results20, go_sem, *]; done))); exact ⟨rfl, (by repeat (first | (with_reducible exact Below.refl _ _) | (with_reducible assumption) | (with_reducible refine Below.drew ?_) | (with_reducible refine Below_drewN ?_) | (with_reducible refine Below.alloc ?_ (by first | omega | (simp; done) | (simp; omega)) _) | (with_reducible refine Below.setCell ?_ (by first | omega | (simp; done) | (simp; omega)) _) | (with_reducible refine Below.trans ?_ (Below.mono (by assumption) (by first | omega | (simp; done) | (simp; omega))))))⟩)
end Go.Proofs.Ythngedmmeiiklaa

/- life.Finish and usherref.Finished: their contracts; the walk of LifeFinishes. -/
import Derived.Test.YthngedmmeiiklaaLifeSet
import Derived.Test.YthngedmmeiiklaaLifeChkW
import Derived.Test.YthngedmmeiiklaaSameBook
namespace Go.Proofs.Ythngedmmeiiklaa
open Go.RowKit

def Lf.done (x : Lf) : Lf := { x with state := 4 }
/-- What Finish answers (P11.6). -/
def FnAns (L : List Lf) (R : List Rq) (b : Int) (L' : List Lf) (R' : List Rq) (code : Int) : Prop := (¬ BkMay L R ∧ L' = [] ∧ R' = [] ∧ code = 6) ∨ (BkMay L R ∧ idxOf (lfIs b) L = -1 ∧ L' = [] ∧ R' = [] ∧ code = 8) ∨
  (BkMay L R ∧ (∃ i : Nat, i < L.length ∧ idxOf (lfIs b) L = i ∧ (L.getD i Lf.zero).state ≠ 3) ∧ L' = [] ∧ R' = [] ∧ code = 8) ∨
  (BkMay L R ∧ (∃ i : Nat, i < L.length ∧ idxOf (lfIs b) L = i ∧ (L.getD i Lf.zero).state = 3 ∧ L' = L.set i (L.getD i Lf.zero).done) ∧ R = R' ∧ code = 0)
theorem FnAns_total (L : List Lf) (R : List Rq) (b : Int) : ∃ L' R' code, FnAns L R b L' R' code := by
  by_cases h : BkMay L R
  · rcases idxOf_cases (lfIs b) L Lf.zero with ⟨hi, _⟩ | ⟨i, hi, he, _⟩
    · exact ⟨_, _, _, Or.inr (Or.inl ⟨h, hi, rfl, rfl, rfl⟩)⟩
    · by_cases hs : (L.getD i Lf.zero).state = 3
      · exact ⟨_, _, _, Or.inr (Or.inr (Or.inr ⟨h, ⟨i, hi, he, hs, rfl⟩, rfl, rfl⟩))⟩
      · exact ⟨_, _, _, Or.inr (Or.inr (Or.inl ⟨h, ⟨i, hi, he, hs⟩, rfl, rfl, rfl⟩))⟩
  · exact ⟨_, _, _, Or.inl ⟨h, rfl, rfl, rfl⟩⟩
def FnPost (w : World) (L : List Lf) (R : List Rq) (code : Int) (e : Ending) (w' : World) : Prop := ∃ v1 v2, e = .returned (.tuple #[.agg #[v1, v2], .int .i64 code]) ∧ RowAt w' 6 v1 (L.map Lf.cells) ∧ RowAt w' 5 v2 (R.map Rq.cells) ∧ Below w.heap.size w w'

set_option maxHeartbeats 4000000 in
set_option maxRecDepth 100000 in
theorem prog_Fin (vl vr : Value) (L : List Lf) (R : List Rq) (b : Int) (L' : List Lf) (R' : List Rq) (code : Int) (w : World) (hl : RowAt w 6 vl (L.map Lf.cells)) (hr : RowAt w 5 vr (R.map Rq.cells)) (h : FnAns L R b L' R' code) :
    Calls Try.prog 17 #[.agg #[vl, vr], .int .i64 b] w (FnPost w L' R' code) := by
  have HL := Lib.hid hl
  have HR := Lib.hid hr
  obtain ⟨a, c, rfl, _⟩ := RowAt_shape hl
  obtain ⟨a', c', rfl, _⟩ := RowAt_shape hr
  clear hl hr
  by_cases hm : BkMay L R
  rotate_left
  · have H := Lib.hid hm
    obtain ⟨rfl, rfl, rfl⟩ : L' = [] ∧ R' = [] ∧ code = 6 := by
      rcases h with ⟨_, h⟩ | ⟨h, _⟩ | ⟨h, _⟩ | ⟨h, _⟩
      · exact h
      all_goals exact absurd h hm
    clear h hm
    go_enter Try.func17, Try.ntmps17
    go_wp2_with fail
    refine (prog_open_bad _ _ L R _ (RowAt_alloc (RowAt_alloc HL.out _) _) (RowAt_alloc (RowAt_alloc HR.out _) _) H.out).mono ?_
    rintro e w1 ⟨rfl, hb1⟩
    obtain ⟨hc1, hf1⟩ := bcell hb1; have hz1 := blt hb1; have hy1 := hb1.size; simp at hy1; have m0 : w.heap.size < w1.heap.size := (by omega); have m1 : w.heap.size + 1 < w1.heap.size := (by omega); have hN1 : w1.heap[w.heap.size + 1]? = some (.cells #[.slice none 0 0, .slice none 0 0] 25 (0, 0)) := blk_below hb1 (heap_at (w := World.alloc _ _) _ (by simp)) (by simp)
    go_wp2
    refine bodyPost_ret (v := .tuple #[.agg #[.slice none 0 0, .slice none 0 0], .int .i64 6]) ?_ rfl ⟨_, _, rfl, RowAt_nil _ _, RowAt_nil _ _, (by repeat (first | (with_reducible exact Below.refl _ _) | (with_reducible assumption) | (with_reducible refine Below.drew ?_) | (with_reducible refine Below_drewN ?_) | (with_reducible refine Below.alloc ?_ (by first | omega | (simp; done) | (simp; omega)) _) | (with_reducible refine Below.setCell ?_ (by first | omega | (simp; done) | (simp; omega)) _) | (with_reducible refine Below.trans ?_ (Below.mono (by assumption) (by first | omega | (simp; done) | (simp; omega))))))⟩
    simp [results, Try.results17, go_sem, *]
  have H := Lib.hid hm
  have h12 := hm.1
  rcases h with ⟨h, _⟩ | ⟨_, hi, rfl, rfl, rfl⟩ | ⟨_, ⟨i, hi, he, hs⟩, rfl, rfl, rfl⟩ | ⟨_, ⟨i, hi, he, hs, rfl⟩, rfl, rfl⟩
  · exact absurd hm h
  · have HI := Lib.hid hi
    clear hi hm
    go_enter Try.func17, Try.ntmps17
    go_wp2_with fail
    refine (prog_open_ok _ _ L R _ (RowAt_alloc (RowAt_alloc HL.out _) _) (RowAt_alloc (RowAt_alloc HR.out _) _) H.out).mono ?_
    rintro e w1 ⟨p, v1, v2, rfl, K1, hb1⟩
    obtain ⟨hc1, hf1⟩ := bcell hb1; have hz1 := blt hb1; have hy1 := hb1.size; simp at hy1; have m0 : w.heap.size < w1.heap.size := (by omega); have m1 : w.heap.size + 1 < w1.heap.size := (by omega); have hN1 : w1.heap[w.heap.size + 1]? = some (.cells #[.slice none 0 0, .slice none 0 0] 25 (0, 0)) := blk_below hb1 (heap_at (w := World.alloc _ _) _ (by simp)) (by simp)
    have HK := Lib.hid K1
    have hs := owns_shape K1.o1
    have HV : Hid (fdV v1 (idxOf (lfIs b) L) = .pointer none) := by obtain ⟨a, cap, rfl, _⟩ := hs; show fdV _ _ = _; rw [HI.out]; cases a <;> simp [fdV]
    clear K1 hs
    go_wp2_with fail
    refine (prog_find _ p v1 v2 L R b _ HK.out h12).mono ?_
    rintro e w2 ⟨rfl, hb2⟩
    rw [HV.out]
    have hy2 := hb2.size
    have m2 : w.heap.size < w2.heap.size := by omega
    have m3 : w.heap.size + 1 < w2.heap.size := by omega
    have hN := blk_below hb2 hN1 (by omega)
    have d0 := blk_cell hN 0; have d1 := blk_cell hN 1; have g0 := blk_free hN 0; have g1 := blk_free hN 1; simp at d0 d1
    clear hN hN1
    go_wp2
    refine bodyPost_ret (v := .tuple #[.agg #[.slice none 0 0, .slice none 0 0], .int .i64 8]) ?_ rfl ⟨_, _, rfl, RowAt_nil _ _, RowAt_nil _ _, (by repeat (first | (with_reducible exact Below.refl _ _) | (with_reducible assumption) | (with_reducible refine Below.drew ?_) | (with_reducible refine Below_drewN ?_) | (with_reducible refine Below.alloc ?_ (by first | omega | (simp; done) | (simp; omega)) _) | (with_reducible refine Below.setCell ?_ (by first | omega | (simp; done) | (simp; omega)) _) | (with_reducible refine Below.trans ?_ (Below.mono (by assumption) (by first | omega | (simp; done) | (simp; omega))))))⟩
    simp [results, Try.results17, go_sem, *]
  · have HI := Lib.hid he
    obtain ⟨s, hs'⟩ : ∃ s, s = L.getD i Lf.zero := ⟨_, rfl⟩
    rw [← hs'] at hs
    have HS := Lib.hid hs'
    obtain ⟨bk, st, wt, si, un, rq⟩ := s
    simp only at hs
    have e1 : (st != 3) = true := by simpa using hs
    clear he hm hs hs'
    go_enter Try.func17, Try.ntmps17
    go_wp2_with fail
    refine (prog_open_ok _ _ L R _ (RowAt_alloc (RowAt_alloc HL.out _) _) (RowAt_alloc (RowAt_alloc HR.out _) _) H.out).mono ?_
    rintro e w1 ⟨p, v1, v2, rfl, K1, hb1⟩
    obtain ⟨hc1, hf1⟩ := bcell hb1; have hz1 := blt hb1; have hy1 := hb1.size; simp at hy1; have m0 : w.heap.size < w1.heap.size := (by omega); have m1 : w.heap.size + 1 < w1.heap.size := (by omega); have hN1 : w1.heap[w.heap.size + 1]? = some (.cells #[.slice none 0 0, .slice none 0 0] 25 (0, 0)) := blk_below hb1 (heap_at (w := World.alloc _ _) _ (by simp)) (by simp)
    obtain ⟨g, cap, rfl, hg1, hg2⟩ := K1.addr hi
    have HK := Lib.hid K1
    have HV : Hid (fdV (.slice (some ⟨g, 0, none⟩) L.length cap) (idxOf (lfIs b) L) = .pointer (some ⟨g, i * 6, none⟩)) := by show fdV _ _ = _; rw [HI.out]; simp [fdV]
    clear K1
    go_wp2_with fail
    refine (prog_find _ p _ v2 L R b _ HK.out h12).mono ?_
    rintro e w2 ⟨rfl, hb2⟩
    rw [HV.out]
    have hy2 := hb2.size
    have m2 : w.heap.size < w2.heap.size := by omega
    have m3 : w.heap.size + 1 < w2.heap.size := by omega
    have hN := blk_below hb2 hN1 (by omega)
    have d0 := blk_cell hN 0; have d1 := blk_cell hN 1; have g0 := blk_free hN 0; have g1 := blk_free hN 1; simp at d0 d1
    have K2 := HK.out.below hb2
    have q1 := (K2.cell hi (j := 1) (by omega)).1
    rw [← HS.out] at q1
    simp [Lf.cells] at q1
    clear hN hN1 K2
    go_wp2
    refine bodyPost_ret (v := .tuple #[.agg #[.slice none 0 0, .slice none 0 0], .int .i64 8]) ?_ rfl ⟨_, _, rfl, RowAt_nil _ _, RowAt_nil _ _, (by repeat (first | (with_reducible exact Below.refl _ _) | (with_reducible assumption) | (with_reducible refine Below.drew ?_) | (with_reducible refine Below_drewN ?_) | (with_reducible refine Below.alloc ?_ (by first | omega | (simp; done) | (simp; omega)) _) | (with_reducible refine Below.setCell ?_ (by first | omega | (simp; done) | (simp; omega)) _) | (with_reducible refine Below.trans ?_ (Below.mono (by assumption) (by first | omega | (simp; done) | (simp; omega))))))⟩
    simp [results, Try.results17, go_sem, *]
  · have HI := Lib.hid he
    obtain ⟨s, hs'⟩ : ∃ s, s = L.getD i Lf.zero := ⟨_, rfl⟩
    rw [← hs'] at hs
    have HS := Lib.hid hs'
    rw [← hs']
    clear hs'
    obtain ⟨bk, st, wt, si, un, rq⟩ := s
    simp only at hs
    subst hs
    clear he hm
    go_enter Try.func17, Try.ntmps17
    go_wp2_with fail
    refine (prog_open_ok _ _ L R _ (RowAt_alloc (RowAt_alloc HL.out _) _) (RowAt_alloc (RowAt_alloc HR.out _) _) H.out).mono ?_
    rintro e w1 ⟨p, v1, v2, rfl, K1, hb1⟩
    obtain ⟨hc1, hf1⟩ := bcell hb1; have hz1 := blt hb1; have hy1 := hb1.size; simp at hy1; have m0 : w.heap.size < w1.heap.size := (by omega); have m1 : w.heap.size + 1 < w1.heap.size := (by omega); have hN1 : w1.heap[w.heap.size + 1]? = some (.cells #[.slice none 0 0, .slice none 0 0] 25 (0, 0)) := blk_below hb1 (heap_at (w := World.alloc _ _) _ (by simp)) (by simp)
    have hB1 := (((Below.refl w.heap.size w).alloc (Nat.le_refl _) (.cells #[.slice a L.length c, .slice a' R.length c'] 25)).alloc (by simp) (.cells #[.slice none 0 0, .slice none 0 0] 25)).trans (hb1.mono (by simp; omega))
    have B1 := Lib.hid hB1
    obtain ⟨g, cap, rfl, hg1, hg2⟩ := K1.addr hi
    obtain ⟨x2, y2, rfl, _⟩ := owns_shape K1.o2
    have HK := Lib.hid K1
    simp at hg1
    have HV : Hid (fdV (.slice (some ⟨g, 0, none⟩) L.length cap) (idxOf (lfIs b) L) = .pointer (some ⟨g, i * 6, none⟩)) := by show fdV _ _ = _; rw [HI.out]; simp [fdV]
    clear K1 hB1
    go_wp2_with fail
    refine (prog_find _ p _ _ L R b _ HK.out h12).mono ?_
    rintro e w2 ⟨rfl, hb2⟩
    rw [HV.out]
    have hy2 := hb2.size
    have m2 : w.heap.size < w2.heap.size := by omega
    have m3 : w.heap.size + 1 < w2.heap.size := by omega
    have hN := blk_below hb2 hN1 (by omega)
    have d0 := blk_cell hN 0; have d1 := blk_cell hN 1; have g0 := blk_free hN 0; have g1 := blk_free hN 1; simp at d0 d1
    have B2 := Lib.hid (B1.out.trans (hb2.mono (by omega)))
    have K2 := Lib.hid (HK.out.below hb2)
    obtain ⟨q1, q2⟩ := K2.out.cell hi (j := 1) (by omega)
    rw [← HS.out] at q1
    simp [Lf.cells] at q1
    have c0 := blk_cell K2.out.hh 0
    have c1 := blk_cell K2.out.hh 1
    simp at c0 c1
    have hp := K2.out.hB
    simp at hp
    have K3 := Lib.hid (K2.out.field (x := Lf.done ⟨bk, 3, wt, si, un, rq⟩) (v := .int .i64 4) (j := 1) hi (by omega) (by rw [← HS.out]; rfl))
    have n1 : p ≠ g := by omega
    have n2 : g ≠ p := by omega
    have n3 : g ≠ w.heap.size + 1 := by omega
    have n4 : w.heap.size + 1 ≠ g := by omega
    clear hN hN1 hb2 hb1 hc1 hf1 hz1
    go_wp2
    refine bodyPost_ret (v := .tuple #[.agg #[.slice (some ⟨g, 0, none⟩) L.length cap, .slice x2 R.length y2], .int .i64 0]) ?_ rfl ⟨_, _, rfl, (RowNew_setCell (RowNew_setCell K3.out.r1 (by simp) _) (by simp) _).1, (RowNew_setCell (RowNew_setCell K3.out.r2 (by simp) _) (by simp) _).1, ((B2.out.setCell (by simp; omega) _).setCell (by simp) _).setCell (by simp) _⟩
    simp [results, Try.results17, go_sem, *]

set_option maxHeartbeats 4000000 in
set_option maxRecDepth 100000 in
theorem ref_Fin (vl vr : Value) (L : List Lf) (R : List Rq) (b : Int) (L' : List Lf) (R' : List Rq) (code : Int) (w : World) (hl : RowAt w 6 vl (L.map Lf.cells)) (hr : RowAt w 5 vr (R.map Rq.cells)) (h : FnAns L R b L' R' code) :
    Calls Try.prog 18 #[.agg #[vl, vr], .int .i64 b] w (FnPost w L' R' code) := by
  have HL := Lib.hid hl
  have HR := Lib.hid hr
  obtain ⟨a, c, rfl, _⟩ := RowAt_shape hl
  obtain ⟨a', c', rfl, _⟩ := RowAt_shape hr
  clear hl hr
  rcases h with ⟨hm, rfl, rfl, rfl⟩ | ⟨hm, hi, rfl, rfl, rfl⟩ | ⟨hm, ⟨i, hi, he, hs⟩, rfl, rfl, rfl⟩ | ⟨hm, ⟨i, hi, he, hs, rfl⟩, rfl, rfl⟩
  · have H : Hid (LoAns L R b Lf.zero 6) := Or.inl ⟨hm, rfl, rfl⟩
    clear hm
    go_enter Try.func18, Try.ntmps18
    go_wp2_with fail
    refine (ref_LOf _ _ L R b Lf.zero 6 _ (RowAt_alloc (RowAt_alloc HL.out _) _) (RowAt_alloc (RowAt_alloc HR.out _) _) H.out).mono ?_
    rintro e w1 ⟨rfl, hb1⟩
    unfold Lf.agg Lf.zero
    obtain ⟨hc1, hf1⟩ := bcell hb1; have hz1 := blt hb1; have hy1 := hb1.size; simp at hy1; have m0 : w.heap.size < w1.heap.size := (by omega); have m1 : w.heap.size + 1 < w1.heap.size := (by omega); have hN1 : w1.heap[w.heap.size + 1]? = some (.cells #[.slice none 0 0, .slice none 0 0] 25 (0, 0)) := blk_below hb1 (heap_at (w := World.alloc _ _) _ (by simp)) (by simp)
    go_wp2
    refine bodyPost_ret (v := .tuple #[.agg #[.slice none 0 0, .slice none 0 0], .int .i64 6]) ?_ rfl ⟨_, _, rfl, RowAt_nil _ _, RowAt_nil _ _, (by repeat (first | (with_reducible exact Below.refl _ _) | (with_reducible assumption) | (with_reducible refine Below.drew ?_) | (with_reducible refine Below_drewN ?_) | (with_reducible refine Below.alloc ?_ (by first | omega | (simp; done) | (simp; omega)) _) | (with_reducible refine Below.setCell ?_ (by first | omega | (simp; done) | (simp; omega)) _) | (with_reducible refine Below.trans ?_ (Below.mono (by assumption) (by first | omega | (simp; done) | (simp; omega))))))⟩
    simp [results, Try.results18, go_sem, *]
  · have H : Hid (LoAns L R b Lf.zero 8) := Or.inr (Or.inl ⟨hm, hi, rfl, rfl⟩)
    clear hm hi
    go_enter Try.func18, Try.ntmps18
    go_wp2_with fail
    refine (ref_LOf _ _ L R b Lf.zero 8 _ (RowAt_alloc (RowAt_alloc HL.out _) _) (RowAt_alloc (RowAt_alloc HR.out _) _) H.out).mono ?_
    rintro e w1 ⟨rfl, hb1⟩
    unfold Lf.agg Lf.zero
    obtain ⟨hc1, hf1⟩ := bcell hb1; have hz1 := blt hb1; have hy1 := hb1.size; simp at hy1; have m0 : w.heap.size < w1.heap.size := (by omega); have m1 : w.heap.size + 1 < w1.heap.size := (by omega); have hN1 : w1.heap[w.heap.size + 1]? = some (.cells #[.slice none 0 0, .slice none 0 0] 25 (0, 0)) := blk_below hb1 (heap_at (w := World.alloc _ _) _ (by simp)) (by simp)
    go_wp2
    refine bodyPost_ret (v := .tuple #[.agg #[.slice none 0 0, .slice none 0 0], .int .i64 8]) ?_ rfl ⟨_, _, rfl, RowAt_nil _ _, RowAt_nil _ _, (by repeat (first | (with_reducible exact Below.refl _ _) | (with_reducible assumption) | (with_reducible refine Below.drew ?_) | (with_reducible refine Below_drewN ?_) | (with_reducible refine Below.alloc ?_ (by first | omega | (simp; done) | (simp; omega)) _) | (with_reducible refine Below.setCell ?_ (by first | omega | (simp; done) | (simp; omega)) _) | (with_reducible refine Below.trans ?_ (Below.mono (by assumption) (by first | omega | (simp; done) | (simp; omega))))))⟩
    simp [results, Try.results18, go_sem, *]
  · have H : Hid (LoAns L R b (L.getD i Lf.zero) 0) := Or.inr (Or.inr ⟨hm, ⟨i, hi, he, rfl⟩, rfl⟩)
    generalize (L.getD i Lf.zero) = s at hs H
    obtain ⟨bk, st, wt, si, un, rq⟩ := s
    simp only at hs
    have e1 : (st != 3) = true := by simpa using hs
    clear hm he hi hs
    go_enter Try.func18, Try.ntmps18
    go_wp2_with fail
    refine (ref_LOf _ _ L R b ⟨bk, st, wt, si, un, rq⟩ 0 _ (RowAt_alloc (RowAt_alloc HL.out _) _) (RowAt_alloc (RowAt_alloc HR.out _) _) H.out).mono ?_
    rintro e w1 ⟨rfl, hb1⟩
    unfold Lf.agg
    obtain ⟨hc1, hf1⟩ := bcell hb1; have hz1 := blt hb1; have hy1 := hb1.size; simp at hy1; have m0 : w.heap.size < w1.heap.size := (by omega); have m1 : w.heap.size + 1 < w1.heap.size := (by omega); have hN1 : w1.heap[w.heap.size + 1]? = some (.cells #[.slice none 0 0, .slice none 0 0] 25 (0, 0)) := blk_below hb1 (heap_at (w := World.alloc _ _) _ (by simp)) (by simp)
    go_wp2
    refine bodyPost_ret (v := .tuple #[.agg #[.slice none 0 0, .slice none 0 0], .int .i64 8]) ?_ rfl ⟨_, _, rfl, RowAt_nil _ _, RowAt_nil _ _, (by repeat (first | (with_reducible exact Below.refl _ _) | (with_reducible assumption) | (with_reducible refine Below.drew ?_) | (with_reducible refine Below_drewN ?_) | (with_reducible refine Below.alloc ?_ (by first | omega | (simp; done) | (simp; omega)) _) | (with_reducible refine Below.setCell ?_ (by first | omega | (simp; done) | (simp; omega)) _) | (with_reducible refine Below.trans ?_ (Below.mono (by assumption) (by first | omega | (simp; done) | (simp; omega))))))⟩
    simp [results, Try.results18, go_sem, *]
  · have H : Hid (LoAns L R b (L.getD i Lf.zero) 0) := Or.inr (Or.inr ⟨hm, ⟨i, hi, he, rfl⟩, rfl⟩)
    have HI := Lib.hid he
    have h12 := hm.1
    have n1 : L.length * 48 ≤ 140737488351232 := by omega
    have n2 : R.length * 40 ≤ 140737488351232 := by have := hm.2.1; omega
    have hi' : (i : Int) < (L.length : Int) := by omega
    have p0 : (0 : Int) ≤ (i : Int) := by omega
    obtain ⟨s, hs'⟩ : ∃ s, s = L.getD i Lf.zero := ⟨_, rfl⟩
    rw [← hs'] at hs H ⊢
    have HS := Lib.hid hs'
    obtain ⟨bk, st, wt, si, un, rq⟩ := s
    simp only at hs
    subst hs
    clear hm he hs'
    go_enter Try.func18, Try.ntmps18
    go_wp2_with fail
    refine (ref_LOf _ _ L R b ⟨bk, 3, wt, si, un, rq⟩ 0 _ (RowAt_alloc (RowAt_alloc HL.out _) _) (RowAt_alloc (RowAt_alloc HR.out _) _) H.out).mono ?_
    rintro e w1 ⟨rfl, hb1⟩
    unfold Lf.agg
    have B1 := Lib.hid (((((Below.refl w.heap.size w).alloc (Nat.le_refl _) (.cells #[.slice a L.length c, .slice a' R.length c'] 25)).alloc (by simp) (.cells #[.slice none 0 0, .slice none 0 0] 25)).trans (hb1.mono (by simp; omega))).alloc (by have := hb1.size; simp at this; omega) (.cells #[.int .i64 bk, .int .i64 3, .int .i64 wt, .int .i64 si, .int .i64 un, .int .i64 rq] 44))
    obtain ⟨hc1, hf1⟩ := bcell hb1; have hz1 := blt hb1; have hy1 := hb1.size; simp at hy1; have m0 : w.heap.size < w1.heap.size := (by omega); have m1 : w.heap.size + 1 < w1.heap.size := (by omega); have hN1 : w1.heap[w.heap.size + 1]? = some (.cells #[.slice none 0 0, .slice none 0 0] 25 (0, 0)) := blk_below hb1 (heap_at (w := World.alloc _ _) _ (by simp)) (by simp)
    go_wp2_with fail
    refine (ref_BookCopyO _ _ L R _ (RowAt_below HL.out B1.out) (RowAt_below HR.out B1.out) n1 n2).mono ?_
    rintro e w2 ⟨v1, v2, rfl, o1, o2, dis, hb2⟩
    obtain ⟨g, cap, rfl, hg1⟩ : ∃ g cap, v1 = .slice (some ⟨g, 0, none⟩) L.length cap ∧ w1.heap.size + 1 ≤ g := by
      rcases o1.2 with ⟨_, h0⟩ | ⟨gg, cap, cur, e, h1, h2, _⟩
      · omega
      · exact ⟨gg, cap, e, by simpa using h1⟩
    obtain ⟨x2, y2, rfl, _⟩ := owns_shape o2
    have hg2 := (o1.lt g rfl).2
    have hN := blk_below hb2 ((Below.heap_alloc (w := w1) (.cells #[.int .i64 bk, .int .i64 3, .int .i64 wt, .int .i64 si, .int .i64 un, .int .i64 rq] 44) (w.heap.size + 1) (by omega)).trans hN1) (by simp; omega)
    have d0 := blk_cell hN 0; have d1 := blk_cell hN 1; have g0 := blk_free hN 0; have g1 := blk_free hN 1; simp at d0 d1
    have hy2 := hb2.size
    simp at hy2
    have B2 := Lib.hid (B1.out.trans (hb2.mono (by simp; omega)))
    have O1 := Lib.hid o1
    have O2 := Lib.hid o2
    have D := Lib.hid dis
    have m2 : w.heap.size < w2.heap.size := by omega
    have m3 : w.heap.size + 1 < w2.heap.size := by omega
    clear o1 o2 dis hb2 hb1 hN hN1 hc1 hf1 hz1
    go_wp2_with fail
    refine (ref_lifeAt _ _ L b _ (RowAt_alloc (RowAt_of_owns O1.out (by simp) (lenb_Lf L)) _) h12).mono ?_
    rintro e w3 ⟨rfl, hb3⟩
    rw [HI.out]
    have hy3 := hb3.size
    simp at hy3
    have B3 := Lib.hid ((B2.out.alloc (by omega) (.cells #[.slice (some ⟨g, 0, none⟩) L.length cap, .slice x2 R.length y2] 25)).trans (hb3.mono (by simp; omega)))
    have hM := blk_below hb3 (heap_at (w := w2) (.cells #[.slice (some ⟨g, 0, none⟩) L.length cap, .slice x2 R.length y2] 25) rfl) (by simp)
    have c0 := blk_cell hM 0
    have c1 := blk_cell hM 1
    simp at c0 c1
    have P1 := Lib.hid (own_keep (own_keep O1.out ((Below.refl _ _).alloc (Nat.le_refl _) _)) hb3)
    have P2 := Lib.hid (own_keep (own_keep O2.out ((Below.refl _ _).alloc (Nat.le_refl _) _)) hb3)
    have q2 := P1.out.frozenAt (i * 6 + 1)
    have q1 : w3.cell? ⟨g, i * 6 + 1, none⟩ = some (.int .i64 3) := by
      rw [P1.out.cellAt _ (by omega), flatten_get (lenb_Lf L) i 1 (by simpa using hi) (by omega)]
      have := HS.out
      simp [List.getD, hi] at this ⊢
      rw [← this]; rfl
    have d0' : w3.cell? ⟨w.heap.size + 1, 0, none⟩ = some (.slice none 0 0) := cell_below' hb3 (cell_alloc _ d0)
    have d1' : w3.cell? ⟨w.heap.size + 1, 1, none⟩ = some (.slice none 0 0) := cell_below' hb3 (cell_alloc _ d1)
    have g0' : w3.frozen? ⟨w.heap.size + 1, 0, none⟩ = false := (hb3.frozen (p := ⟨w.heap.size + 1, 0, none⟩) (by simp; omega)).trans (free_alloc g0 m3 _)
    have g1' : w3.frozen? ⟨w.heap.size + 1, 1, none⟩ = false := (hb3.frozen (p := ⟨w.heap.size + 1, 1, none⟩) (by simp; omega)).trans (free_alloc g1 m3 _)
    have F1 := Lib.hid (own_field (x := Lf.done ⟨bk, 3, wt, si, un, rq⟩) (v := .int .i64 4) (j := 1) P1.out hi (by omega) (by rw [← HS.out]; rfl))
    have F2 := Lib.hid (ownsRow_setCell_other P2.out (a := ⟨g, i * 6 + 1, none⟩) (D.out g rfl) (.int .i64 4))
    have n3 : g ≠ w.heap.size + 1 := by omega
    have n4 : w.heap.size + 1 ≠ g := by omega
    have n5 : g ≠ w2.heap.size := by omega
    have n6 : w2.heap.size ≠ g := by omega
    have m4 : w.heap.size + 1 < w3.heap.size := by omega
    clear hM hb3 d0 d1 g0 g1
    go_wp2
    refine bodyPost_ret (v := .tuple #[.agg #[.slice (some ⟨g, 0, none⟩) L.length cap, .slice x2 R.length y2], .int .i64 0]) ?_ rfl ⟨_, _, rfl, RowAt_of_owns (n := L.length) (ownsRow_setCell_below (ownsRow_setCell_below F1.out (by simp; omega) _) (by simp; omega) _) (by simp) (lenb_Lf _), RowAt_of_owns (ownsRow_setCell_below (ownsRow_setCell_below F2.out (by simp; omega) _) (by simp; omega) _) (by simp) (lenb_Rq R), ((B3.out.setCell (by simp; omega) _).setCell (by simp) _).setCell (by simp) _⟩
    simp [results, Try.results18, go_sem, *]
end Go.Proofs.Ythngedmmeiiklaa

/- usherref.FlowPut: its contract. -/
import Derived.Test.YtbemdijjdeimgaaTabPut
import Derived.Deep.RegionHeld3
namespace Go.Proofs.Ytbemdijjdeimgaa
open Go.RowKit

set_option maxHeartbeats 4000000 in
set_option maxRecDepth 100000 in
theorem ref_Put_bad (v : Value) (X : List Sl) (ky bb : Int) (w : World) (r : RowAt w 4 v (X.map Sl.cells)) (h : ¬ TabMay X) : Calls Try.prog 19 #[.agg #[v], .int .i64 ky, .int .i64 bb] w (PutPost w [] ⟨0, 0⟩ 6) := by
  have R := Lib.hid r
  have H := Lib.hid h
  obtain ⟨a, c, rfl, _⟩ := RowAt_shape r
  clear r h
  go_enter Try.func19, Try.ntmps19
  go_wp2_with (go_at_call 26; refine (tabFault_bad _ X _ (RowAt_alloc (RowAt_alloc (RowAt_alloc R.out _) _) _) H.out).mono ?_; rintro e w1 ⟨rfl, hb1⟩; obtain ⟨hc1, hf1⟩ := bcell hb1; have hz1 := blt hb1; have hy1 := hb1.size; (try simp at hy1))
  refine bodyPost_ret (v := .tuple #[.agg #[.slice none 0 0], .agg #[.int .i64 0, .int .i64 0], .int .i64 6]) ?_ rfl ⟨_, rfl, RowNew_nil _ _ _, (by repeat (first | (with_reducible exact Below.refl _ _) | (with_reducible assumption) | (with_reducible refine Below.drew ?_) | (with_reducible refine Below_drewN ?_) | (with_reducible refine Below.alloc ?_ (by first | omega | (simp; done) | (simp; omega)) _) | (with_reducible refine Below.setCell ?_ (by first | omega | (simp; done) | (simp; omega)) _) | (with_reducible refine Below.trans ?_ (Below.mono (by assumption) (by first | omega | (simp; done) | (simp; omega))))))⟩
  simp [results, Try.results19, go_sem, *]

set_option maxHeartbeats 4000000 in
set_option maxRecDepth 100000 in
theorem ref_Put_range (v : Value) (X : List Sl) (ky bb : Int) (w : World) (r : RowAt w 4 v (X.map Sl.cells)) (h : TabMay X) (h2 : ky < 0 ∨ (0 ≤ ky ∧ 4294967295 < ky) ∨ (0 ≤ ky ∧ ky ≤ 4294967295 ∧ bb < 0) ∨ (0 ≤ ky ∧ ky ≤ 4294967295 ∧ 0 ≤ bb ∧ 12 ≤ bb)) : Calls Try.prog 19 #[.agg #[v], .int .i64 ky, .int .i64 bb] w (PutPost w [] ⟨0, 0⟩ 2) := by
  have R := Lib.hid r
  have H := Lib.hid h
  obtain ⟨a, c, rfl, _⟩ := RowAt_shape r
  clear r h
  rcases h2 with h2 | ⟨h2, h3⟩ | ⟨h2, h3, h4⟩ | ⟨h2, h3, h4, h5⟩
  all_goals
    go_enter Try.func19, Try.ntmps19
    go_wp2_with (first | (go_at_call 26; refine (tabFault_ok _ X _ (RowAt_alloc (RowAt_alloc (RowAt_alloc R.out _) _) _) H.out).mono ?_; rintro e w1 ⟨rfl, hb1⟩; obtain ⟨hc1, hf1⟩ := bcell hb1; have hz1 := blt hb1; have hy1 := hb1.size; (try simp at hy1)) | (go_at_call 27; first | (refine (In_yes _ _ _ _ (by omega) (by omega)).mono ?_; rintro e w' ⟨rfl, rfl⟩) | (refine (In_no _ _ _ _ (by omega)).mono ?_; rintro e w' ⟨rfl, rfl⟩)))
    refine bodyPost_ret (v := .tuple #[.agg #[.slice none 0 0], .agg #[.int .i64 0, .int .i64 0], .int .i64 2]) ?_ rfl ⟨_, rfl, RowNew_nil _ _ _, (by repeat (first | (with_reducible exact Below.refl _ _) | (with_reducible assumption) | (with_reducible refine Below.drew ?_) | (with_reducible refine Below_drewN ?_) | (with_reducible refine Below.alloc ?_ (by first | omega | (simp; done) | (simp; omega)) _) | (with_reducible refine Below.setCell ?_ (by first | omega | (simp; done) | (simp; omega)) _) | (with_reducible refine Below.trans ?_ (Below.mono (by assumption) (by first | omega | (simp; done) | (simp; omega))))))⟩
    simp [results, Try.results19, go_sem, *]

/-- The list's answer: the first free slot. -/
def PutAns (X : List Sl) (ky bb : Int) (Y : List Sl) (h : Hd) (code : Int) : Prop := (idxOf freeB X = -1 ∧ Y = [] ∧ h = ⟨0, 0⟩ ∧ code = 9) ∨ ∃ i : Nat, i < X.length ∧ idxOf freeB X = i ∧ Y = X.set i ⟨(X.getD i Sl.zero).gen, true, ky, bb⟩ ∧ h = ⟨i, (X.getD i Sl.zero).gen⟩ ∧ code = 0

/-- What holds at the head of FlowPut's loop. -/
def FPRel (w wr : World) (s : Value) (X : List Sl) (k : Nat) : Prop := k ≤ X.length ∧ Below w.heap.size w wr ∧ wr.heap[w.heap.size]? = some (.cells #[s] 24 (0, 0)) ∧ wr.heap[w.heap.size + 1]? = some (.cells #[.slice none 0 0] 24 (0, 0)) ∧ wr.heap[w.heap.size + 1 + 1]? = some (.cells #[.int .i64 0, .int .i64 0] 26 (0, 0)) ∧ ∀ x ∈ X.take k, freeB x = false

set_option maxHeartbeats 4000000 in
set_option maxRecDepth 100000 in
theorem ref_Put_row (b0 o0 c0 : Nat) (X : List Sl) (ky bb : Int) (Y : List Sl) (hd : Hd) (code : Int) (w : World) (hb0 : b0 < w.heap.size) (r : RowAt w 4 (.slice (some ⟨b0, o0, none⟩) X.length c0) (X.map Sl.cells)) (h1 : ∀ i j, i < X.length → j < 4 → w.cell? ⟨b0, o0 + i * 4 + j, none⟩ = (X.getD i Sl.zero).cells[j]?)
    (h : TabMay X) (k1 : 0 ≤ ky) (k2 : ky ≤ 4294967295) (b1 : 0 ≤ bb) (b2 : bb ≤ 11) (ha : PutAns X ky bb Y hd code) :
    Calls Try.prog 19 #[.agg #[.slice (some ⟨b0, o0, none⟩) X.length c0], .int .i64 ky, .int .i64 bb] w (PutPost w Y hd code) := by
  have R := Lib.hid r
  have H := Lib.hid h
  have H1 := Lib.hid h1
  have HA := Lib.hid ha
  have hl : X.length ≤ 40 := h.2.1
  clear r h h1 ha
  go_enter Try.func19, Try.ntmps19
  go_wp2_with (first | (go_at_call 26; refine (tabFault_ok _ X _ (RowAt_alloc (RowAt_alloc (RowAt_alloc R.out _) _) _) H.out).mono ?_; rintro e w1 ⟨rfl, hb1⟩; obtain ⟨hc1, hf1⟩ := bcell hb1; have hz1 := blt hb1; have hy1 := hb1.size; (try simp at hy1)) | (go_at_call 27; first | (refine (In_yes _ _ _ _ (by omega) (by omega)).mono ?_; rintro e w' ⟨rfl, rfl⟩) | (refine (In_no _ _ _ _ (by omega)).mono ?_; rintro e w' ⟨rfl, rfl⟩)))
  go_loopw [10] (fun i wr => ∃ k : Nat, i = .int .i64 k ∧ FPRel w wr (.slice (some ⟨b0, o0, none⟩) X.length c0) X k) (fun i _ => X.length - (intOf i).toNat)
  case atStart =>
    refine ⟨0, rfl, Nat.zero_le _, (by repeat (first | (with_reducible exact Below.refl _ _) | (with_reducible assumption) | (with_reducible refine Below.drew ?_) | (with_reducible refine Below_drewN ?_) | (with_reducible refine Below.alloc ?_ (by first | omega | (simp; done) | (simp; omega)) _) | (with_reducible refine Below.setCell ?_ (by first | omega | (simp; done) | (simp; omega)) _) | (with_reducible refine Below.trans ?_ (Below.mono (by assumption) (by first | omega | (simp; done) | (simp; omega)))))), blk_below hb1 ?_ (by first | omega | (simp; done) | (simp; omega)), blk_below hb1 ?_ (by first | omega | (simp; done) | (simp; omega)), blk_below hb1 ?_ (by first | omega | (simp; done) | (simp; omega)), fun x hx => by simp at hx⟩
    · rw [Below.heap_alloc _ _ _ (by first | omega | (simp; done) | (simp; omega)), Below.heap_alloc _ _ _ (by first | omega | (simp; done) | (simp; omega))]; exact heap_at _ rfl
    · rw [Below.heap_alloc _ _ _ (by first | omega | (simp; done) | (simp; omega))]; exact heap_at (w := World.alloc _ _) _ (by simp)
    · exact heap_at (w := World.alloc _ _) _ (by simp)
  case round =>
    obtain ⟨k, rfl, hk, hb, hh0, hh1, hh2, hall⟩ := hrel
    clear hc1 hf1 hz1 hb1
    have HB := Lib.hid hb
    have HH := Lib.hid (And.intro hh0 (And.intro hh1 hh2))
    have e0 := blk_cell hh0 0
    have e1 := blk_cell hh1 0
    have e2 := blk_cell hh2 0
    have e3 := blk_cell hh2 1
    simp at e0 e1 e2 e3
    have f1 := blk_free hh1 0
    have f2 := blk_free hh2 0
    have f3 := blk_free hh2 1
    have l2 := lt_of_block hh2
    have HL := Lib.hid hall
    clear hh0 hh1 hh2 hall
    (try have kwr_0 : w.heap.size < wr.heap.size := by omega); (try have kwr_1 : w.heap.size + 1 < wr.heap.size := by omega); (try have kwr_2 : w.heap.size + 1 + 1 < wr.heap.size := by omega)
    rcases (show k < X.length ∨ X.length = k by omega) with hlt | heq
    · have hlt' : (k : Int) < (X.length : Int) := by omega
      obtain ⟨s, hs⟩ : ∃ s, s = X.getD k Sl.zero := ⟨_, rfl⟩
      have hmem : SlMay s := by rw [hs]; refine H.out.2.2 _ ?_; simp only [List.getD, List.getElem?_eq_getElem hlt, Option.getD_some]; exact List.getElem_mem _
      have hold : ∀ j, j < 4 → wr.cell? ⟨b0, o0 + k * 4 + j, none⟩ = s.cells[j]? := fun j hj => by
        rw [hb.cell (p := ⟨b0, o0 + k * 4 + j, none⟩) hb0, hs]; exact H1.out k j hlt hj
      have a0 := hold 0 (by omega)
      have a1 := hold 1 (by omega)
      have a2 := hold 2 (by omega)
      have a3 := hold 3 (by omega)
      have HS := Lib.hid hs
      clear hold hb hs
      obtain ⟨g, u, kk, b⟩ := s
      simp only [Sl.cells, List.getElem?_cons_zero, List.getElem?_cons_succ, Nat.add_zero] at a0 a1 a2 a3
      have ST : ∀ g u kk b, Hid (FPRel w wr (.slice (some ⟨b0, o0, none⟩) X.length c0) X k → freeB ⟨g, u, kk, b⟩ = false → (⟨g, u, kk, b⟩ : Sl) = X.getD k Sl.zero → FPRel w (wr.alloc (.cells #[.int .i64 g, .bool u, .int .i64 kk, .int .i64 b] 28)) (.slice (some ⟨b0, o0, none⟩) X.length c0) X (k + 1)) := by
        intro g u kk b ⟨_, p1, p2, p3, p4, p5⟩ hf hs
        have B1 := (Below.refl wr.heap.size wr).alloc (Nat.le_refl _) (.cells #[.int .i64 g, .bool u, .int .i64 kk, .int .i64 b] 28)
        exact ⟨by omega, p1.trans (B1.mono p1.size), blk_below B1 p2 (lt_of_block p2), blk_below B1 p3 (lt_of_block p3), blk_below B1 p4 (lt_of_block p4), idx_step hlt hs hf p5⟩
      have HR : Hid (FPRel w wr (.slice (some ⟨b0, o0, none⟩) X.length c0) X k) := ⟨hk, HB.out, HH.out.1, HH.out.2.1, HH.out.2.2, HL.out⟩
      cases u with
      | true =>
        clear hmem
        go_wp2
        go_roundw
        case rel => exact ⟨k + 1, by go_num, (ST _ _ _ _).out HR.out rfl HS.out⟩
        case measure => simp [intOf]; omega
      | false =>
        obtain ⟨g1, g2, rfl, rfl⟩ : 0 ≤ g ∧ g ≤ 1048576 ∧ kk = 0 ∧ b = 0 := by simpa [SlMay] using hmem
        clear hmem
        by_cases hg : g = 1048576
        · subst hg
          go_wp2
          go_roundw
          case rel => exact ⟨k + 1, by go_num, (ST _ _ _ _).out HR.out (by simp [freeB]) HS.out⟩
          case measure => simp [intOf]; omega
        · have hne : (g != 1048576) = true := by simpa using hg
          have hfr : Hid (idxOf freeB X = k) := idxOf_hit hlt HS.out (by simp [freeB]; omega) HL.out
          clear ST
          have RW := Lib.hid (RowAt_below R.out HB.out)
          go_wp2_with fail
          have l0 : wr.heap.size ≠ w.heap.size := by omega
          have l1 : wr.heap.size ≠ w.heap.size + 1 := by omega
          have l2 : wr.heap.size ≠ w.heap.size + 1 + 1 := by omega
          have n1 : (wr.alloc (.cells #[.int .i64 g, .bool false, .int .i64 0, .int .i64 0] 28)).cell? ⟨wr.heap.size, 0, none⟩ = some (.int .i64 g) := by go_simp
          go_region_held3 (fun w' => w'.cell? ⟨w.heap.size, 0, none⟩ = some (.slice (some ⟨b0, o0, none⟩) X.length c0) ∧ w'.cell? ⟨wr.heap.size, 0, none⟩ = some (.int .i64 g))
            ((go_split_ands; (try dsimp only); (repeat' apply And.intro); all_goals (repeat (first | with_reducible assumption | (with_reducible refine (cell_set_ne ?_).trans ?_; omega) | (with_reducible refine cell_alloc _ ?_) | (with_reducible refine cell_drew ?_) | (with_reducible refine cell_below' hb2 ?_)))))
            (first | (go_at_call 31; refine (ref_changed_any _ X k g true ky bb _ ?_ hl hlt).mono ?_; (repeat (first | (with_reducible exact RW.out) | refine RowAt_alloc ?_ _ | exact RowAt_drewN ?_ 1)); rintro e w2 ⟨v2, rfl, R2, hb2⟩; obtain ⟨a2, c2, rfl, _⟩ := RowAt_shape R2.1; obtain ⟨hc2, hf2⟩ := bcell hb2; have hz2 := blt hb2; have hy2 := hb2.size; (try simp at hy2); (try have kw2_0 : w.heap.size < w2.heap.size := by omega); (try have kw2_1 : w.heap.size + 1 < w2.heap.size := by omega); (try have kw2_2 : w.heap.size + 1 + 1 < w2.heap.size := by omega)))
          all_goals
            have hb3 := Lib.hid (HB.out.trans ((((Below.refl wr.heap.size wr).alloc (Nat.le_refl _) (.cells #[.int .i64 g, .bool false, .int .i64 0, .int .i64 0] 28)).drew.trans (hb2.mono (by simp))).mono HB.out.size))
            have R3 : Hid (RowNew wr.heap.size w2 4 (.slice a2 X.length c2) ((X.set k ⟨g, true, ky, bb⟩).map Sl.cells)) := by have h := R2; simp only [List.length_set] at h; exact RowNew_mono h (by simp)
            clear R2 hb2
            go_wp2
            refine bodyPost_ret (v := .tuple #[.agg #[.slice a2 X.length c2], .agg #[.int .i64 k, .int .i64 g], .int .i64 0]) ?_ rfl ?_
            · simp [results, Try.results19, go_sem, *]
            · rcases HA.out with ⟨h, _⟩ | ⟨i, hi, hx, rfl, rfl, rfl⟩
              · exfalso; have := hfr.out; omega
              · obtain rfl : i = k := by have := hfr.out; omega
                rw [← HS.out]
                exact ⟨_, rfl, (by refine RowNew_mono (B := wr.heap.size) ?_ (by first | omega | (simp; done) | (simp; omega)); repeat (first | exact R3.out | refine RowNew_setCell ?_ (by first | omega | (simp; done) | (simp; omega)) _ | refine RowNew_alloc ?_ _ | refine RowNew_drewN ?_ _)), ((hb3.out.setCell (by first | omega | (simp; done) | (simp; omega)) _).setCell (by first | omega | (simp; done) | (simp; omega)) _).setCell (by first | omega | (simp; done) | (simp; omega)) _⟩
    · have hge : ¬ (k : Int) < (X.length : Int) := by omega
      have hno : Hid (idxOf freeB X = -1) := idxOf_none heq HL.out
      rcases HA.out with ⟨_, rfl, rfl, rfl⟩ | ⟨i, hi, hx, _⟩
      · clear hb heq
        go_wp2
        refine bodyPost_ret (v := .tuple #[.agg #[.slice none 0 0], .agg #[.int .i64 0, .int .i64 0], .int .i64 9]) ?_ rfl ⟨_, rfl, RowNew_nil _ _ _, ((HB.out.setCell (by first | omega | (simp; done) | (simp; omega)) _).setCell (by first | omega | (simp; done) | (simp; omega)) _).setCell (by first | omega | (simp; done) | (simp; omega)) _⟩
        simp [results, Try.results19, go_sem, *]
      · exfalso; have := hno.out; omega
end Go.Proofs.Ytbemdijjdeimgaa

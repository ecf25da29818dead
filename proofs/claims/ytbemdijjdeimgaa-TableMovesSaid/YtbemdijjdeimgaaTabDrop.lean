/- table.Drop, usherref.FlowDropped, table.Move, usherref.FlowMoved: their contracts. -/
import Derived.Test.YtbemdijjdeimgaaTabWith
import Derived.Test.YtbemdijjdeimgaaTabGetR
namespace Go.Proofs.Ytbemdijjdeimgaa
open Go.RowKit

/-- The end of Drop: a table and a number. -/
def DropPost (w : World) (Y : List Sl) (code : Int) (e : Ending) (w' : World) : Prop := ∃ v, e = .returned (.tuple #[.agg #[v], .int .i64 code]) ∧ RowNew w.heap.size w' 4 v (Y.map Sl.cells) ∧ Below w.heap.size w w'

/-- The answer of Drop: by that of Get. -/
def DropAns (X : List Sl) (sl gn : Int) (Y : List Sl) (code : Int) : Prop := ∃ o c, GetRes X sl gn o c ∧ ((c ≠ 0 ∧ Y = [] ∧ code = c) ∨ (c = 0 ∧ ∃ i : Nat, i < X.length ∧ sl = i ∧ (0 ≤ o.gen ∧ o.gen ≤ 1048575) ∧ Y = X.set i ⟨o.gen + 1, false, 0, 0⟩ ∧ code = 0))
theorem GetRes_codes {X : List Sl} {sl gn : Int} {o : Sl} {c : Int} (h : GetRes X sl gn o c) : c = 6 ∨ c = 8 ∨ c = 10 ∨ c = 0 := by
  rcases h with ⟨_, _, h⟩ | ⟨_, _, _, h⟩ | ⟨_, i, _, _, ⟨_, _, _, h⟩ | ⟨_, _, h⟩⟩ <;> omega
theorem GetRes_0 {X : List Sl} {sl gn : Int} {o : Sl} (h : GetRes X sl gn o 0) : X.length ≤ 40 ∧ ∃ i : Nat, i < X.length ∧ sl = i ∧ o = X.getD i Sl.zero ∧ o.used = true ∧ SlMay o := by
  rcases h with ⟨_, _, h⟩ | ⟨_, _, _, h⟩ | ⟨hm, i, hi, hs, ⟨hu, _, rfl, _⟩ | ⟨_, _, h⟩⟩
  · omega
  · omega
  · refine ⟨hm.2.1, i, hi, hs, rfl, hu, hm.2.2 _ ?_⟩
    simp only [List.getD, List.getElem?_eq_getElem hi, Option.getD_some]; exact List.getElem_mem _
  · omega
theorem DropAns_total (X : List Sl) (sl gn : Int) : ∃ Y code, DropAns X sl gn Y code := by
  obtain ⟨o, c, h⟩ := GetRes_total X sl gn
  by_cases hc : c = 0
  · subst hc
    obtain ⟨_, i, hi, hs, _, hu, hm⟩ := GetRes_0 h
    unfold SlMay at hm
    rw [if_pos hu] at hm
    exact ⟨_, _, o, 0, h, Or.inr ⟨rfl, i, hi, hs, ⟨hm.1, hm.2.1⟩, rfl, rfl⟩⟩
  · exact ⟨_, _, o, c, h, Or.inl ⟨hc, rfl, rfl⟩⟩

set_option maxHeartbeats 4000000 in
set_option maxRecDepth 100000 in
theorem prog_Drop (X Y : List Sl) (sl gn : Int) (code : Int) (v : Value) (w : World) (r : RowAt w 4 v (X.map Sl.cells)) (h : DropAns X sl gn Y code) : Calls Try.prog 21 #[.agg #[v], .agg #[.int .i64 sl, .int .i64 gn]] w (DropPost w Y code) := by
  have R := Lib.hid r
  obtain ⟨a, c, rfl, _⟩ := RowAt_shape r
  clear r
  obtain ⟨o, cc, hg, h⟩ := h
  have G := Lib.hid hg
  rcases h with ⟨hc, rfl, rfl⟩ | ⟨rfl, i, hi, rfl, ⟨g1, g2⟩, rfl, rfl⟩
  · have hc' : (code == 0) = false := by simpa using hc
    have hc2 : (code != 0) = true := by simpa using hc
    clear hg hc
    obtain ⟨g, u, ky, bb⟩ := o
    go_enter Try.func21, Try.ntmps21
    go_wp2_with fail
    refine (prog_Get X sl gn _ code _ _ (RowAt_alloc (RowAt_alloc (RowAt_alloc R.out _) _) _) G.out).mono ?_
    rintro e w1 ⟨rfl, hb1⟩
    obtain ⟨hc1, hf1⟩ := bcell hb1
    have hz1 := blt hb1
    have hy1 := hb1.size
    simp at hy1
    (try have kw1_0 : w.heap.size < w1.heap.size := by omega); (try have kw1_1 : w.heap.size + 1 < w1.heap.size := by omega); (try have kw1_2 : w.heap.size + 1 + 1 < w1.heap.size := by omega)
    go_wp2
    refine bodyPost_ret (v := .tuple #[.agg #[.slice none 0 0], .int .i64 code]) ?_ rfl ⟨_, rfl, RowNew_nil _ _ _, (by repeat (first | (with_reducible exact Below.refl _ _) | (with_reducible assumption) | (with_reducible refine Below.drew ?_) | (with_reducible refine Below_drewN ?_) | (with_reducible refine Below.alloc ?_ (by first | omega | (simp; done) | (simp; omega)) _) | (with_reducible refine Below.setCell ?_ (by first | omega | (simp; done) | (simp; omega)) _) | (with_reducible refine Below.trans ?_ (Below.mono (by assumption) (by first | omega | (simp; done) | (simp; omega))))))⟩
    simp [results, Try.results21, go_sem, *]
  · have hl := (GetRes_0 hg).1
    have HI := Lib.hid hi
    clear hg hi
    obtain ⟨g, u, ky, bb⟩ := o
    simp only at g1 g2
    go_enter Try.func21, Try.ntmps21
    go_wp2_with fail
    refine (prog_Get X i gn _ 0 _ _ (RowAt_alloc (RowAt_alloc (RowAt_alloc R.out _) _) _) G.out).mono ?_
    rintro e w1 ⟨rfl, hb1⟩
    have R1 := Lib.hid (RowAt_alloc (RowAt_below (RowAt_alloc (RowAt_alloc (RowAt_alloc R.out (.cells #[.slice a X.length c] 24)) (.cells #[.int .i64 i, .int .i64 gn] 26)) (.cells #[.slice none 0 0] 24)) hb1) (.cells #[.int .i64 g, .bool u, .int .i64 ky, .int .i64 bb] 28))
    obtain ⟨hc1, hf1⟩ := bcell hb1
    have hz1 := blt hb1
    have hy1 := hb1.size
    simp at hy1
    (try have kw1_0 : w.heap.size < w1.heap.size := by omega); (try have kw1_1 : w.heap.size + 1 < w1.heap.size := by omega); (try have kw1_2 : w.heap.size + 1 + 1 < w1.heap.size := by omega)
    go_wp2_with fail
    refine (prog_with _ X i (g + 1) false 0 0 _ R1.out hl HI.out).mono ?_
    rintro e w2 ⟨v2, rfl, R2, hb2⟩
    obtain ⟨a2, c2, rfl, _⟩ := RowAt_shape R2.1
    obtain ⟨hc2, hf2⟩ := bcell hb2
    have hz2 := blt hb2
    have hy2 := hb2.size
    simp at hy2
    (try have kw2_0 : w.heap.size < w2.heap.size := by omega); (try have kw2_1 : w.heap.size + 1 < w2.heap.size := by omega); (try have kw2_2 : w.heap.size + 1 + 1 < w2.heap.size := by omega)
    have R3 : Hid (RowNew w1.heap.size w2 4 (.slice a2 X.length c2) ((X.set i ⟨g + 1, false, 0, 0⟩).map Sl.cells)) := by have h := R2; simp only [List.length_set] at h; exact RowNew_mono h (by simp)
    clear R2
    go_wp2
    refine bodyPost_ret (v := .tuple #[.agg #[.slice a2 X.length c2], .int .i64 0]) ?_ rfl ⟨_, rfl, (by refine RowNew_mono (B := w1.heap.size) ?_ (by first | omega | (simp; done) | (simp; omega)); repeat (first | exact R3.out | refine RowNew_setCell ?_ (by first | omega | (simp; done) | (simp; omega)) _ | refine RowNew_alloc ?_ _ | refine RowNew_drewN ?_ _)), (by repeat (first | (with_reducible exact Below.refl _ _) | (with_reducible assumption) | (with_reducible refine Below.drew ?_) | (with_reducible refine Below_drewN ?_) | (with_reducible refine Below.alloc ?_ (by first | omega | (simp; done) | (simp; omega)) _) | (with_reducible refine Below.setCell ?_ (by first | omega | (simp; done) | (simp; omega)) _) | (with_reducible refine Below.trans ?_ (Below.mono (by assumption) (by first | omega | (simp; done) | (simp; omega))))))⟩
    simp [results, Try.results21, go_sem, *]

set_option maxHeartbeats 4000000 in
set_option maxRecDepth 100000 in
theorem ref_Drop (X Y : List Sl) (sl gn : Int) (code : Int) (v : Value) (w : World) (r : RowAt w 4 v (X.map Sl.cells)) (h : DropAns X sl gn Y code) : Calls Try.prog 22 #[.agg #[v], .agg #[.int .i64 sl, .int .i64 gn]] w (DropPost w Y code) := by
  have R := Lib.hid r
  obtain ⟨a, c, rfl, _⟩ := RowAt_shape r
  clear r
  obtain ⟨o, cc, hg, h⟩ := h
  have G := Lib.hid hg
  rcases h with ⟨hc, rfl, rfl⟩ | ⟨rfl, i, hi, rfl, ⟨g1, g2⟩, rfl, rfl⟩
  · have hc' : (code == 0) = false := by simpa using hc
    have hc2 : (code != 0) = true := by simpa using hc
    clear hg hc
    obtain ⟨g, u, ky, bb⟩ := o
    go_enter Try.func22, Try.ntmps22
    go_wp2_with fail
    refine (ref_FlowGot X sl gn _ code _ _ (RowAt_alloc (RowAt_alloc (RowAt_alloc R.out _) _) _) G.out).mono ?_
    rintro e w1 ⟨rfl, hb1⟩
    obtain ⟨hc1, hf1⟩ := bcell hb1
    have hz1 := blt hb1
    have hy1 := hb1.size
    simp at hy1
    (try have kw1_0 : w.heap.size < w1.heap.size := by omega); (try have kw1_1 : w.heap.size + 1 < w1.heap.size := by omega); (try have kw1_2 : w.heap.size + 1 + 1 < w1.heap.size := by omega)
    go_wp2
    refine bodyPost_ret (v := .tuple #[.agg #[.slice none 0 0], .int .i64 code]) ?_ rfl ⟨_, rfl, RowNew_nil _ _ _, (by repeat (first | (with_reducible exact Below.refl _ _) | (with_reducible assumption) | (with_reducible refine Below.drew ?_) | (with_reducible refine Below_drewN ?_) | (with_reducible refine Below.alloc ?_ (by first | omega | (simp; done) | (simp; omega)) _) | (with_reducible refine Below.setCell ?_ (by first | omega | (simp; done) | (simp; omega)) _) | (with_reducible refine Below.trans ?_ (Below.mono (by assumption) (by first | omega | (simp; done) | (simp; omega))))))⟩
    simp [results, Try.results22, go_sem, *]
  · have hl := (GetRes_0 hg).1
    have HI := Lib.hid hi
    clear hg hi
    obtain ⟨g, u, ky, bb⟩ := o
    simp only at g1 g2
    go_enter Try.func22, Try.ntmps22
    go_wp2_with fail
    refine (ref_FlowGot X i gn _ 0 _ _ (RowAt_alloc (RowAt_alloc (RowAt_alloc R.out _) _) _) G.out).mono ?_
    rintro e w1 ⟨rfl, hb1⟩
    have R1 := Lib.hid (RowAt_alloc (RowAt_below (RowAt_alloc (RowAt_alloc (RowAt_alloc R.out (.cells #[.slice a X.length c] 24)) (.cells #[.int .i64 i, .int .i64 gn] 26)) (.cells #[.slice none 0 0] 24)) hb1) (.cells #[.int .i64 g, .bool u, .int .i64 ky, .int .i64 bb] 28))
    obtain ⟨hc1, hf1⟩ := bcell hb1
    have hz1 := blt hb1
    have hy1 := hb1.size
    simp at hy1
    (try have kw1_0 : w.heap.size < w1.heap.size := by omega); (try have kw1_1 : w.heap.size + 1 < w1.heap.size := by omega); (try have kw1_2 : w.heap.size + 1 + 1 < w1.heap.size := by omega)
    go_wp2_with fail
    refine (ref_changed_any _ X i (g + 1) false 0 0 _ R1.out hl HI.out).mono ?_
    rintro e w2 ⟨v2, rfl, R2, hb2⟩
    obtain ⟨a2, c2, rfl, _⟩ := RowAt_shape R2.1
    obtain ⟨hc2, hf2⟩ := bcell hb2
    have hz2 := blt hb2
    have hy2 := hb2.size
    simp at hy2
    (try have kw2_0 : w.heap.size < w2.heap.size := by omega); (try have kw2_1 : w.heap.size + 1 < w2.heap.size := by omega); (try have kw2_2 : w.heap.size + 1 + 1 < w2.heap.size := by omega)
    have R3 : Hid (RowNew w1.heap.size w2 4 (.slice a2 X.length c2) ((X.set i ⟨g + 1, false, 0, 0⟩).map Sl.cells)) := by have h := R2; simp only [List.length_set] at h; exact RowNew_mono h (by simp)
    clear R2
    go_wp2
    refine bodyPost_ret (v := .tuple #[.agg #[.slice a2 X.length c2], .int .i64 0]) ?_ rfl ⟨_, rfl, (by refine RowNew_mono (B := w1.heap.size) ?_ (by first | omega | (simp; done) | (simp; omega)); repeat (first | exact R3.out | refine RowNew_setCell ?_ (by first | omega | (simp; done) | (simp; omega)) _ | refine RowNew_alloc ?_ _ | refine RowNew_drewN ?_ _)), (by repeat (first | (with_reducible exact Below.refl _ _) | (with_reducible assumption) | (with_reducible refine Below.drew ?_) | (with_reducible refine Below_drewN ?_) | (with_reducible refine Below.alloc ?_ (by first | omega | (simp; done) | (simp; omega)) _) | (with_reducible refine Below.setCell ?_ (by first | omega | (simp; done) | (simp; omega)) _) | (with_reducible refine Below.trans ?_ (Below.mono (by assumption) (by first | omega | (simp; done) | (simp; omega))))))⟩
    simp [results, Try.results22, go_sem, *]

/-- The answer of Move: by that of Get. -/
def MoveAns (X : List Sl) (sl gn b : Int) (Y : List Sl) (code : Int) : Prop := ∃ o c, GetRes X sl gn o c ∧ ((c ≠ 0 ∧ Y = [] ∧ code = c) ∨ (c = 0 ∧ (b < 0 ∨ (0 ≤ b ∧ 12 ≤ b)) ∧ Y = [] ∧ code = 2) ∨ (c = 0 ∧ 0 ≤ b ∧ b ≤ 11 ∧ ∃ i : Nat, i < X.length ∧ sl = i ∧ o.used = true ∧ Y = X.set i ⟨o.gen, true, o.key, b⟩ ∧ code = 0))
theorem MoveAns_total (X : List Sl) (sl gn b : Int) : ∃ Y code, MoveAns X sl gn b Y code := by
  obtain ⟨o, c, h⟩ := GetRes_total X sl gn
  by_cases hc : c = 0
  · subst hc
    by_cases hb : b < 0 ∨ (0 ≤ b ∧ 12 ≤ b)
    · exact ⟨_, _, o, 0, h, Or.inr (Or.inl ⟨rfl, hb, rfl, rfl⟩)⟩
    · obtain ⟨_, i, hi, hs, _, hu, hm⟩ := GetRes_0 h
      exact ⟨_, _, o, 0, h, Or.inr (Or.inr ⟨rfl, by omega, by omega, i, hi, hs, hu, rfl, rfl⟩)⟩
  · exact ⟨_, _, o, c, h, Or.inl ⟨hc, rfl, rfl⟩⟩

set_option maxHeartbeats 4000000 in
set_option maxRecDepth 100000 in
theorem prog_Move (X Y : List Sl) (sl gn b : Int) (code : Int) (v : Value) (w : World) (r : RowAt w 4 v (X.map Sl.cells)) (h : MoveAns X sl gn b Y code) : Calls Try.prog 23 #[.agg #[v], .agg #[.int .i64 sl, .int .i64 gn], .int .i64 b] w (DropPost w Y code) := by
  have R := Lib.hid r
  obtain ⟨a, c, rfl, _⟩ := RowAt_shape r
  clear r
  obtain ⟨o, cc, hg, h⟩ := h
  have G := Lib.hid hg
  rcases h with ⟨hc, rfl, rfl⟩ | ⟨rfl, hb, rfl, rfl⟩ | ⟨rfl, b1, b2, i, hi, rfl, hu, rfl, rfl⟩
  · have hc' : (code == 0) = false := by simpa using hc
    have hc2 : (code != 0) = true := by simpa using hc
    clear hg hc
    obtain ⟨g, u, ky, bb⟩ := o
    go_enter Try.func23, Try.ntmps23
    go_wp2_with fail
    refine (prog_Get X sl gn _ code _ _ (RowAt_alloc (RowAt_alloc (RowAt_alloc R.out _) _) _) G.out).mono ?_
    rintro e w1 ⟨rfl, hb1⟩
    obtain ⟨hc1, hf1⟩ := bcell hb1
    have hz1 := blt hb1
    have hy1 := hb1.size
    simp at hy1
    (try have kw1_0 : w.heap.size < w1.heap.size := by omega); (try have kw1_1 : w.heap.size + 1 < w1.heap.size := by omega); (try have kw1_2 : w.heap.size + 1 + 1 < w1.heap.size := by omega)
    go_wp2
    refine bodyPost_ret (v := .tuple #[.agg #[.slice none 0 0], .int .i64 code]) ?_ rfl ⟨_, rfl, RowNew_nil _ _ _, (by repeat (first | (with_reducible exact Below.refl _ _) | (with_reducible assumption) | (with_reducible refine Below.drew ?_) | (with_reducible refine Below_drewN ?_) | (with_reducible refine Below.alloc ?_ (by first | omega | (simp; done) | (simp; omega)) _) | (with_reducible refine Below.setCell ?_ (by first | omega | (simp; done) | (simp; omega)) _) | (with_reducible refine Below.trans ?_ (Below.mono (by assumption) (by first | omega | (simp; done) | (simp; omega))))))⟩
    simp [results, Try.results23, go_sem, *]
  · clear hg
    obtain ⟨g, u, ky, bb⟩ := o
    rcases hb with hb | ⟨hb, hb'⟩
    all_goals
      go_enter Try.func23, Try.ntmps23
      go_wp2_with fail
      refine (prog_Get X sl gn _ 0 _ _ (RowAt_alloc (RowAt_alloc (RowAt_alloc R.out _) _) _) G.out).mono ?_
      rintro e w1 ⟨rfl, hb1⟩
      obtain ⟨hc1, hf1⟩ := bcell hb1
      have hz1 := blt hb1
      have hy1 := hb1.size
      simp at hy1
      (try have kw1_0 : w.heap.size < w1.heap.size := by omega); (try have kw1_1 : w.heap.size + 1 < w1.heap.size := by omega); (try have kw1_2 : w.heap.size + 1 + 1 < w1.heap.size := by omega)
      go_wp2_with fail
      refine bodyPost_ret (v := .tuple #[.agg #[.slice none 0 0], .int .i64 2]) ?_ rfl ⟨_, rfl, RowNew_nil _ _ _, (by repeat (first | (with_reducible exact Below.refl _ _) | (with_reducible assumption) | (with_reducible refine Below.drew ?_) | (with_reducible refine Below_drewN ?_) | (with_reducible refine Below.alloc ?_ (by first | omega | (simp; done) | (simp; omega)) _) | (with_reducible refine Below.setCell ?_ (by first | omega | (simp; done) | (simp; omega)) _) | (with_reducible refine Below.trans ?_ (Below.mono (by assumption) (by first | omega | (simp; done) | (simp; omega))))))⟩
      simp [results, Try.results23, go_sem, *]
  · have hl := (GetRes_0 hg).1
    have HI := Lib.hid hi
    have b3 : b < 12 := by omega
    clear hg hi
    obtain ⟨g, u, ky, bb⟩ := o
    obtain rfl : u = true := by assumption
    go_enter Try.func23, Try.ntmps23
    go_wp2_with fail
    refine (prog_Get X i gn _ 0 _ _ (RowAt_alloc (RowAt_alloc (RowAt_alloc R.out _) _) _) G.out).mono ?_
    rintro e w1 ⟨rfl, hb1⟩
    have R1 : ∀ bb, Hid (RowAt _ 4 (.slice a X.length c) (X.map Sl.cells)) := fun bb => RowAt_alloc (RowAt_below (RowAt_alloc (RowAt_alloc (RowAt_alloc R.out (.cells #[.slice a X.length c] 24)) (.cells #[.int .i64 i, .int .i64 gn] 26)) (.cells #[.slice none 0 0] 24)) hb1) (.cells #[.int .i64 g, .bool true, .int .i64 ky, .int .i64 bb] 28)
    obtain ⟨hc1, hf1⟩ := bcell hb1
    have hz1 := blt hb1
    have hy1 := hb1.size
    simp at hy1
    (try have kw1_0 : w.heap.size < w1.heap.size := by omega); (try have kw1_1 : w.heap.size + 1 < w1.heap.size := by omega); (try have kw1_2 : w.heap.size + 1 + 1 < w1.heap.size := by omega)
    go_wp2_with fail
    refine (prog_with _ X i g true ky b _ (R1 _).out hl HI.out).mono ?_
    rintro e w2 ⟨v2, rfl, R2, hb2⟩
    obtain ⟨a2, c2, rfl, _⟩ := RowAt_shape R2.1
    obtain ⟨hc2, hf2⟩ := bcell hb2
    have hz2 := blt hb2
    have hy2 := hb2.size
    simp at hy2
    (try have kw2_0 : w.heap.size < w2.heap.size := by omega); (try have kw2_1 : w.heap.size + 1 < w2.heap.size := by omega); (try have kw2_2 : w.heap.size + 1 + 1 < w2.heap.size := by omega)
    have R3 : Hid (RowNew w1.heap.size w2 4 (.slice a2 X.length c2) ((X.set i ⟨g, true, ky, b⟩).map Sl.cells)) := by have h := R2; simp only [List.length_set] at h; exact RowNew_mono h (by simp)
    clear R2
    go_wp2
    refine bodyPost_ret (v := .tuple #[.agg #[.slice a2 X.length c2], .int .i64 0]) ?_ rfl ⟨_, rfl, (by refine RowNew_mono (B := w1.heap.size) ?_ (by first | omega | (simp; done) | (simp; omega)); repeat (first | exact R3.out | refine RowNew_setCell ?_ (by first | omega | (simp; done) | (simp; omega)) _ | refine RowNew_alloc ?_ _ | refine RowNew_drewN ?_ _)), (by repeat (first | (with_reducible exact Below.refl _ _) | (with_reducible assumption) | (with_reducible refine Below.drew ?_) | (with_reducible refine Below_drewN ?_) | (with_reducible refine Below.alloc ?_ (by first | omega | (simp; done) | (simp; omega)) _) | (with_reducible refine Below.setCell ?_ (by first | omega | (simp; done) | (simp; omega)) _) | (with_reducible refine Below.trans ?_ (Below.mono (by assumption) (by first | omega | (simp; done) | (simp; omega))))))⟩
    simp [results, Try.results23, go_sem, *]

set_option maxHeartbeats 4000000 in
set_option maxRecDepth 100000 in
theorem ref_Move (X Y : List Sl) (sl gn b : Int) (code : Int) (v : Value) (w : World) (r : RowAt w 4 v (X.map Sl.cells)) (h : MoveAns X sl gn b Y code) : Calls Try.prog 24 #[.agg #[v], .agg #[.int .i64 sl, .int .i64 gn], .int .i64 b] w (DropPost w Y code) := by
  have R := Lib.hid r
  obtain ⟨a, c, rfl, _⟩ := RowAt_shape r
  clear r
  obtain ⟨o, cc, hg, h⟩ := h
  have G := Lib.hid hg
  rcases h with ⟨hc, rfl, rfl⟩ | ⟨rfl, hb, rfl, rfl⟩ | ⟨rfl, b1, b2, i, hi, rfl, hu, rfl, rfl⟩
  · have hc' : (code == 0) = false := by simpa using hc
    have hc2 : (code != 0) = true := by simpa using hc
    clear hg hc
    obtain ⟨g, u, ky, bb⟩ := o
    go_enter Try.func24, Try.ntmps24
    go_wp2_with fail
    refine (ref_FlowGot X sl gn _ code _ _ (RowAt_alloc (RowAt_alloc (RowAt_alloc R.out _) _) _) G.out).mono ?_
    rintro e w1 ⟨rfl, hb1⟩
    obtain ⟨hc1, hf1⟩ := bcell hb1
    have hz1 := blt hb1
    have hy1 := hb1.size
    simp at hy1
    (try have kw1_0 : w.heap.size < w1.heap.size := by omega); (try have kw1_1 : w.heap.size + 1 < w1.heap.size := by omega); (try have kw1_2 : w.heap.size + 1 + 1 < w1.heap.size := by omega)
    go_wp2
    refine bodyPost_ret (v := .tuple #[.agg #[.slice none 0 0], .int .i64 code]) ?_ rfl ⟨_, rfl, RowNew_nil _ _ _, (by repeat (first | (with_reducible exact Below.refl _ _) | (with_reducible assumption) | (with_reducible refine Below.drew ?_) | (with_reducible refine Below_drewN ?_) | (with_reducible refine Below.alloc ?_ (by first | omega | (simp; done) | (simp; omega)) _) | (with_reducible refine Below.setCell ?_ (by first | omega | (simp; done) | (simp; omega)) _) | (with_reducible refine Below.trans ?_ (Below.mono (by assumption) (by first | omega | (simp; done) | (simp; omega))))))⟩
    simp [results, Try.results24, go_sem, *]
  · clear hg
    obtain ⟨g, u, ky, bb⟩ := o
    rcases hb with hb | ⟨hb, hb'⟩
    all_goals
      go_enter Try.func24, Try.ntmps24
      go_wp2_with fail
      refine (ref_FlowGot X sl gn _ 0 _ _ (RowAt_alloc (RowAt_alloc (RowAt_alloc R.out _) _) _) G.out).mono ?_
      rintro e w1 ⟨rfl, hb1⟩
      obtain ⟨hc1, hf1⟩ := bcell hb1
      have hz1 := blt hb1
      have hy1 := hb1.size
      simp at hy1
      (try have kw1_0 : w.heap.size < w1.heap.size := by omega); (try have kw1_1 : w.heap.size + 1 < w1.heap.size := by omega); (try have kw1_2 : w.heap.size + 1 + 1 < w1.heap.size := by omega)
      go_wp2_with (first | (go_at_call 27; first | (refine (In_yes _ _ _ _ (by omega) (by omega)).mono ?_; rintro e w' ⟨rfl, rfl⟩) | (refine (In_no _ _ _ _ (by omega)).mono ?_; rintro e w' ⟨rfl, rfl⟩)))
      refine bodyPost_ret (v := .tuple #[.agg #[.slice none 0 0], .int .i64 2]) ?_ rfl ⟨_, rfl, RowNew_nil _ _ _, (by repeat (first | (with_reducible exact Below.refl _ _) | (with_reducible assumption) | (with_reducible refine Below.drew ?_) | (with_reducible refine Below_drewN ?_) | (with_reducible refine Below.alloc ?_ (by first | omega | (simp; done) | (simp; omega)) _) | (with_reducible refine Below.setCell ?_ (by first | omega | (simp; done) | (simp; omega)) _) | (with_reducible refine Below.trans ?_ (Below.mono (by assumption) (by first | omega | (simp; done) | (simp; omega))))))⟩
      simp [results, Try.results24, go_sem, *]
  · have hl := (GetRes_0 hg).1
    have HI := Lib.hid hi
    have b3 : b < 12 := by omega
    clear hg hi
    obtain ⟨g, u, ky, bb⟩ := o
    obtain rfl : u = true := by assumption
    go_enter Try.func24, Try.ntmps24
    go_wp2_with fail
    refine (ref_FlowGot X i gn _ 0 _ _ (RowAt_alloc (RowAt_alloc (RowAt_alloc R.out _) _) _) G.out).mono ?_
    rintro e w1 ⟨rfl, hb1⟩
    have R1 : ∀ bb, Hid (RowAt _ 4 (.slice a X.length c) (X.map Sl.cells)) := fun bb => RowAt_alloc (RowAt_below (RowAt_alloc (RowAt_alloc (RowAt_alloc R.out (.cells #[.slice a X.length c] 24)) (.cells #[.int .i64 i, .int .i64 gn] 26)) (.cells #[.slice none 0 0] 24)) hb1) (.cells #[.int .i64 g, .bool true, .int .i64 ky, .int .i64 bb] 28)
    obtain ⟨hc1, hf1⟩ := bcell hb1
    have hz1 := blt hb1
    have hy1 := hb1.size
    simp at hy1
    (try have kw1_0 : w.heap.size < w1.heap.size := by omega); (try have kw1_1 : w.heap.size + 1 < w1.heap.size := by omega); (try have kw1_2 : w.heap.size + 1 + 1 < w1.heap.size := by omega)
    go_wp2_with (first | (go_at_call 27; first | (refine (In_yes _ _ _ _ (by omega) (by omega)).mono ?_; rintro e w' ⟨rfl, rfl⟩) | (refine (In_no _ _ _ _ (by omega)).mono ?_; rintro e w' ⟨rfl, rfl⟩)))
    refine (ref_changed_any _ X i g true ky b _ (R1 _).out hl HI.out).mono ?_
    rintro e w2 ⟨v2, rfl, R2, hb2⟩
    obtain ⟨a2, c2, rfl, _⟩ := RowAt_shape R2.1
    obtain ⟨hc2, hf2⟩ := bcell hb2
    have hz2 := blt hb2
    have hy2 := hb2.size
    simp at hy2
    (try have kw2_0 : w.heap.size < w2.heap.size := by omega); (try have kw2_1 : w.heap.size + 1 < w2.heap.size := by omega); (try have kw2_2 : w.heap.size + 1 + 1 < w2.heap.size := by omega)
    have R3 : Hid (RowNew w1.heap.size w2 4 (.slice a2 X.length c2) ((X.set i ⟨g, true, ky, b⟩).map Sl.cells)) := by have h := R2; simp only [List.length_set] at h; exact RowNew_mono h (by simp)
    clear R2
    go_wp2
    refine bodyPost_ret (v := .tuple #[.agg #[.slice a2 X.length c2], .int .i64 0]) ?_ rfl ⟨_, rfl, (by refine RowNew_mono (B := w1.heap.size) ?_ (by first | omega | (simp; done) | (simp; omega)); repeat (first | exact R3.out | refine RowNew_setCell ?_ (by first | omega | (simp; done) | (simp; omega)) _ | refine RowNew_alloc ?_ _ | refine RowNew_drewN ?_ _)), (by repeat (first | (with_reducible exact Below.refl _ _) | (with_reducible assumption) | (with_reducible refine Below.drew ?_) | (with_reducible refine Below_drewN ?_) | (with_reducible refine Below.alloc ?_ (by first | omega | (simp; done) | (simp; omega)) _) | (with_reducible refine Below.setCell ?_ (by first | omega | (simp; done) | (simp; omega)) _) | (with_reducible refine Below.trans ?_ (Below.mono (by assumption) (by first | omega | (simp; done) | (simp; omega))))))⟩
    simp [results, Try.results24, go_sem, *]
end Go.Proofs.Ytbemdijjdeimgaa

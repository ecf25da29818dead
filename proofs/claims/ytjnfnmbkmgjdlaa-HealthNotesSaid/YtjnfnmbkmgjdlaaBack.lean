/- health.Back and usherref.CameBack: their contracts. -/
import Derived.Test.YtjnfnmbkmgjdlaaHOpen
import Derived.Test.YtjnfnmbkmgjdlaaCloneBool
namespace Go.Proofs.Ytjnfnmbkmgjdlaa
open Go.RowKit

/-- The end of Back and of Note: a health, a bool and a number. -/
def HPost (w : World) (M : List Bool) (out : Bool) (u t : Int) (came : Bool) (code : Int) (e : Ending) (w' : World) : Prop := ∃ v, e = .returned (.tuple #[.agg #[v, .bool out, .int .i64 u, .int .i64 t], .bool came, .int .i64 code]) ∧ RowAt w' 1 v (bcells M) ∧ Below w.heap.size w w'
theorem bshape {w : World} {v : Value} {M : List Bool} (h : RowAt w 1 v (bcells M)) : ∃ a cap, v = .slice a M.length cap ∧ (a = none → M = []) := RowAt_shape h
/-- What Back answers. -/
def BackAns (a b c : Int) (M : List Bool) (out : Bool) (u t now : Int) (M' : List Bool) (out' : Bool) (u' t' : Int) (came : Bool) (code : Int) : Prop :=
  HtCode a b c M.length out u t now code ∧ ((code ≠ 0 ∧ M' = [] ∧ out' = false ∧ u' = 0 ∧ t' = 0 ∧ came = false) ∨ (code = 0 ∧ out = true ∧ u ≤ now ∧ M' = M ∧ out' = false ∧ u' = 0 ∧ t' = t ∧ came = true) ∨ (code = 0 ∧ (out = false ∨ (out = true ∧ now < u)) ∧ M' = M ∧ out' = out ∧ u' = u ∧ t' = t ∧ came = false))
theorem BackAns_total (a b c : Int) (M : List Bool) (out : Bool) (u t now : Int) : ∃ M' out' u' t' came code, BackAns a b c M out u t now M' out' u' t' came code := by
  obtain ⟨code, h⟩ := HtCode_total a b c M.length out u t now
  by_cases hc : code = 0
  · cases out with
    | false => exact ⟨_, _, _, _, _, code, h, Or.inr (Or.inr ⟨hc, Or.inl rfl, rfl, rfl, rfl, rfl, rfl⟩)⟩
    | true =>
      by_cases hu : u ≤ now
      · exact ⟨_, _, _, _, _, code, h, Or.inr (Or.inl ⟨hc, rfl, hu, rfl, rfl, rfl, rfl, rfl⟩)⟩
      · exact ⟨_, _, _, _, _, code, h, Or.inr (Or.inr ⟨hc, Or.inr ⟨rfl, by omega⟩, rfl, rfl, rfl, rfl, rfl⟩)⟩
  · exact ⟨_, _, _, _, _, code, h, Or.inl ⟨hc, rfl, rfl, rfl, rfl, rfl⟩⟩

set_option maxHeartbeats 4000000 in
set_option maxRecDepth 100000 in
theorem prog_Back (a b c : Int) (M : List Bool) (out : Bool) (u t now : Int) (M' : List Bool) (out' : Bool) (u' t' : Int) (came : Bool) (code : Int) (v : Value) (w : World) (r : RowAt w 1 v (bcells M)) (hn : M.length ≤ 140737488351232) (h : BackAns a b c M out u t now M' out' u' t' came code) :
    Calls Try.prog 19 #[.agg #[.int .i64 a, .int .i64 b, .int .i64 c], .agg #[v, .bool out, .int .i64 u, .int .i64 t], .int .i64 now] w (HPost w M' out' u' t' came code) := by
  obtain ⟨hc, h⟩ := h
  have R := Lib.hid r
  have HC := Lib.hid hc
  obtain ⟨ad, cp, rfl, _⟩ := bshape r
  clear r hc
  rcases h with ⟨h0, rfl, rfl, rfl, rfl, rfl⟩ | ⟨rfl, rfl, hu, rfl, rfl, rfl, rfl, rfl⟩ | ⟨rfl, ho, rfl, rfl, rfl, rfl, rfl⟩
  · have e1 : (code != 0) = true := by simpa using h0
    clear h0
    go_enter Try.func19, Try.ntmps19
    go_wp2_with (go_at_call 30; refine (prog_hopen _ _ _ _ _ _ _ _ _ _ _ _ HC.out).mono ?_; rintro e w1 ⟨rfl, hb1⟩; obtain ⟨hc1, hf1⟩ := bcell hb1; have hz1 := blt hb1; have hy1 := hb1.size; (try simp at hy1))
    refine bodyPost_ret (v := .tuple #[.agg #[.slice none 0 0, .bool false, .int .i64 0, .int .i64 0], .bool false, .int .i64 code]) ?_ rfl ⟨_, rfl, RowAt_nil _ _, (by repeat (first | (with_reducible exact Below.refl _ _) | (with_reducible assumption) | (with_reducible refine Below.drew ?_) | (with_reducible refine Below_drewN ?_) | (with_reducible refine Below.alloc ?_ (by first | omega | (simp; done) | (simp; omega)) _) | (with_reducible refine Below.setCell ?_ (by first | omega | (simp; done) | (simp; omega)) _) | (with_reducible refine Below.trans ?_ (Below.mono (by assumption) (by first | omega | (simp; done) | (simp; omega))))))⟩
    simp [results, Try.results19, go_sem, *]
  · go_enter Try.func19, Try.ntmps19
    go_wp2_with (go_at_call 30; refine (prog_hopen _ _ _ _ _ _ _ _ _ _ _ _ HC.out).mono ?_; rintro e w1 ⟨rfl, hb1⟩; obtain ⟨hc1, hf1⟩ := bcell hb1; have hz1 := blt hb1; have hy1 := hb1.size; (try simp at hy1))
    (try have kw1_0 : w.heap.size < w1.heap.size := by omega); (try have kw1_1 : w.heap.size + 1 < w1.heap.size := by omega); (try have kw1_2 : w.heap.size + 1 + 1 < w1.heap.size := by omega)
    refine (cloneBool _ M' _ (RowAt_below (RowAt_alloc (RowAt_alloc (RowAt_alloc R.out _) _) _) hb1) (by omega)).mono ?_
    rintro e w2 ⟨v2, rfl, hown, hb2⟩
    have R2 : Hid (RowNew w1.heap.size w2 1 v2 (bcells M')) := RowNew_of_owns hown (List.length_map ..) (lenc_Bool M')
    obtain ⟨a2, c2, rfl, _⟩ := bshape R2.out.1
    obtain ⟨hc2, hf2⟩ := bcell hb2
    have hz2 := blt hb2
    have hy2 := hb2.size
    (try have kw2_0 : w.heap.size < w2.heap.size := by omega); (try have kw2_1 : w.heap.size + 1 < w2.heap.size := by omega); (try have kw2_2 : w.heap.size + 1 + 1 < w2.heap.size := by omega)
    clear hown
    go_wp2
    refine bodyPost_ret (v := .tuple #[.agg #[.slice a2 M'.length c2, .bool false, .int .i64 0, .int .i64 t'], .bool true, .int .i64 0]) ?_ rfl ⟨_, rfl, ?_, (by repeat (first | (with_reducible exact Below.refl _ _) | (with_reducible assumption) | (with_reducible refine Below.drew ?_) | (with_reducible refine Below_drewN ?_) | (with_reducible refine Below.alloc ?_ (by first | omega | (simp; done) | (simp; omega)) _) | (with_reducible refine Below.setCell ?_ (by first | omega | (simp; done) | (simp; omega)) _) | (with_reducible refine Below.trans ?_ (Below.mono (by assumption) (by first | omega | (simp; done) | (simp; omega))))))⟩
    · simp [results, Try.results19, go_sem, *]
    · refine RowNew_at (B := w.heap.size) ?_
      exact (by refine RowNew_mono (B := w1.heap.size) ?_ (by first | omega | (simp; done) | (simp; omega)); repeat (first | (with_reducible exact R2.out) | (with_reducible refine RowNew_setCell ?_ (by first | omega | (simp; done) | (simp; omega)) _) | (with_reducible refine RowNew_alloc ?_ _) | (with_reducible refine RowNew_drewN ?_ _)))
  · rcases ho with rfl | ⟨rfl, hu⟩
    · go_enter Try.func19, Try.ntmps19
      go_wp2_with (go_at_call 30; refine (prog_hopen _ _ _ _ _ _ _ _ _ _ _ _ HC.out).mono ?_; rintro e w1 ⟨rfl, hb1⟩; obtain ⟨hc1, hf1⟩ := bcell hb1; have hz1 := blt hb1; have hy1 := hb1.size; (try simp at hy1))
      (try have kw1_0 : w.heap.size < w1.heap.size := by omega); (try have kw1_1 : w.heap.size + 1 < w1.heap.size := by omega); (try have kw1_2 : w.heap.size + 1 + 1 < w1.heap.size := by omega)
      refine (cloneBool _ M' _ (RowAt_below (RowAt_alloc (RowAt_alloc (RowAt_alloc R.out _) _) _) hb1) (by omega)).mono ?_
      rintro e w2 ⟨v2, rfl, hown, hb2⟩
      have R2 : Hid (RowNew w1.heap.size w2 1 v2 (bcells M')) := RowNew_of_owns hown (List.length_map ..) (lenc_Bool M')
      obtain ⟨a2, c2, rfl, _⟩ := bshape R2.out.1
      obtain ⟨hc2, hf2⟩ := bcell hb2
      have hz2 := blt hb2
      have hy2 := hb2.size
      (try have kw2_0 : w.heap.size < w2.heap.size := by omega); (try have kw2_1 : w.heap.size + 1 < w2.heap.size := by omega); (try have kw2_2 : w.heap.size + 1 + 1 < w2.heap.size := by omega)
      clear hown
      go_wp2
      refine bodyPost_ret (v := .tuple #[.agg #[.slice a2 M'.length c2, .bool false, .int .i64 u', .int .i64 t'], .bool false, .int .i64 0]) ?_ rfl ⟨_, rfl, ?_, (by repeat (first | (with_reducible exact Below.refl _ _) | (with_reducible assumption) | (with_reducible refine Below.drew ?_) | (with_reducible refine Below_drewN ?_) | (with_reducible refine Below.alloc ?_ (by first | omega | (simp; done) | (simp; omega)) _) | (with_reducible refine Below.setCell ?_ (by first | omega | (simp; done) | (simp; omega)) _) | (with_reducible refine Below.trans ?_ (Below.mono (by assumption) (by first | omega | (simp; done) | (simp; omega))))))⟩
      · simp [results, Try.results19, go_sem, *]
      · refine RowNew_at (B := w.heap.size) ?_
        exact (by refine RowNew_mono (B := w1.heap.size) ?_ (by first | omega | (simp; done) | (simp; omega)); repeat (first | (with_reducible exact R2.out) | (with_reducible refine RowNew_setCell ?_ (by first | omega | (simp; done) | (simp; omega)) _) | (with_reducible refine RowNew_alloc ?_ _) | (with_reducible refine RowNew_drewN ?_ _)))
    · go_enter Try.func19, Try.ntmps19
      go_wp2_with (go_at_call 30; refine (prog_hopen _ _ _ _ _ _ _ _ _ _ _ _ HC.out).mono ?_; rintro e w1 ⟨rfl, hb1⟩; obtain ⟨hc1, hf1⟩ := bcell hb1; have hz1 := blt hb1; have hy1 := hb1.size; (try simp at hy1))
      (try have kw1_0 : w.heap.size < w1.heap.size := by omega); (try have kw1_1 : w.heap.size + 1 < w1.heap.size := by omega); (try have kw1_2 : w.heap.size + 1 + 1 < w1.heap.size := by omega)
      refine (cloneBool _ M' _ (RowAt_below (RowAt_alloc (RowAt_alloc (RowAt_alloc R.out _) _) _) hb1) (by omega)).mono ?_
      rintro e w2 ⟨v2, rfl, hown, hb2⟩
      have R2 : Hid (RowNew w1.heap.size w2 1 v2 (bcells M')) := RowNew_of_owns hown (List.length_map ..) (lenc_Bool M')
      obtain ⟨a2, c2, rfl, _⟩ := bshape R2.out.1
      obtain ⟨hc2, hf2⟩ := bcell hb2
      have hz2 := blt hb2
      have hy2 := hb2.size
      (try have kw2_0 : w.heap.size < w2.heap.size := by omega); (try have kw2_1 : w.heap.size + 1 < w2.heap.size := by omega); (try have kw2_2 : w.heap.size + 1 + 1 < w2.heap.size := by omega)
      clear hown
      go_wp2
      refine bodyPost_ret (v := .tuple #[.agg #[.slice a2 M'.length c2, .bool true, .int .i64 u', .int .i64 t'], .bool false, .int .i64 0]) ?_ rfl ⟨_, rfl, ?_, (by repeat (first | (with_reducible exact Below.refl _ _) | (with_reducible assumption) | (with_reducible refine Below.drew ?_) | (with_reducible refine Below_drewN ?_) | (with_reducible refine Below.alloc ?_ (by first | omega | (simp; done) | (simp; omega)) _) | (with_reducible refine Below.setCell ?_ (by first | omega | (simp; done) | (simp; omega)) _) | (with_reducible refine Below.trans ?_ (Below.mono (by assumption) (by first | omega | (simp; done) | (simp; omega))))))⟩
      · simp [results, Try.results19, go_sem, *]
      · refine RowNew_at (B := w.heap.size) ?_
        exact (by refine RowNew_mono (B := w1.heap.size) ?_ (by first | omega | (simp; done) | (simp; omega)); repeat (first | (with_reducible exact R2.out) | (with_reducible refine RowNew_setCell ?_ (by first | omega | (simp; done) | (simp; omega)) _) | (with_reducible refine RowNew_alloc ?_ _) | (with_reducible refine RowNew_drewN ?_ _)))

set_option maxHeartbeats 4000000 in
set_option maxRecDepth 100000 in
theorem ref_Back (a b c : Int) (M : List Bool) (out : Bool) (u t now : Int) (M' : List Bool) (out' : Bool) (u' t' : Int) (came : Bool) (code : Int) (v : Value) (w : World) (r : RowAt w 1 v (bcells M)) (h : BackAns a b c M out u t now M' out' u' t' came code) :
    Calls Try.prog 20 #[.agg #[.int .i64 a, .int .i64 b, .int .i64 c], .agg #[v, .bool out, .int .i64 u, .int .i64 t], .int .i64 now] w (HPost w M' out' u' t' came code) := by
  obtain ⟨hc, h⟩ := h
  have R := Lib.hid r
  have HC := Lib.hid hc
  obtain ⟨ad, cp, rfl, _⟩ := bshape r
  clear r hc
  rcases h with ⟨h0, rfl, rfl, rfl, rfl, rfl⟩ | ⟨rfl, rfl, hu, rfl, rfl, rfl, rfl, rfl⟩ | ⟨rfl, ho, rfl, rfl, rfl, rfl, rfl⟩
  · have e1 : (code != 0) = true := by simpa using h0
    clear h0
    go_enter Try.func20, Try.ntmps20
    go_wp2_with (go_at_call 33; refine (ref_hfault _ _ _ _ _ _ _ _ _ _ _ _ HC.out).mono ?_; rintro e w1 ⟨rfl, hb1⟩; obtain ⟨hc1, hf1⟩ := bcell hb1; have hz1 := blt hb1; have hy1 := hb1.size; (try simp at hy1))
    refine bodyPost_ret (v := .tuple #[.agg #[.slice none 0 0, .bool false, .int .i64 0, .int .i64 0], .bool false, .int .i64 code]) ?_ rfl ⟨_, rfl, RowAt_nil _ _, (by repeat (first | (with_reducible exact Below.refl _ _) | (with_reducible assumption) | (with_reducible refine Below.drew ?_) | (with_reducible refine Below_drewN ?_) | (with_reducible refine Below.alloc ?_ (by first | omega | (simp; done) | (simp; omega)) _) | (with_reducible refine Below.setCell ?_ (by first | omega | (simp; done) | (simp; omega)) _) | (with_reducible refine Below.trans ?_ (Below.mono (by assumption) (by first | omega | (simp; done) | (simp; omega))))))⟩
    simp [results, Try.results20, go_sem, *]
  · go_enter Try.func20, Try.ntmps20
    go_wp2_with (go_at_call 33; refine (ref_hfault _ _ _ _ _ _ _ _ _ _ _ _ HC.out).mono ?_; rintro e w1 ⟨rfl, hb1⟩; obtain ⟨hc1, hf1⟩ := bcell hb1; have hz1 := blt hb1; have hy1 := hb1.size; (try simp at hy1))
    have BB : ∀ w', Hid (Below w.heap.size w w' → RowAt w' 1 (.slice ad M'.length cp) (bcells M')) := fun w' h => RowAt_below R.out h
    refine bodyPost_ret (v := .tuple #[.agg #[.slice ad M'.length cp, .bool false, .int .i64 0, .int .i64 t'], .bool true, .int .i64 0]) ?_ rfl ⟨_, rfl, ?_, (by repeat (first | (with_reducible exact Below.refl _ _) | (with_reducible assumption) | (with_reducible refine Below.drew ?_) | (with_reducible refine Below_drewN ?_) | (with_reducible refine Below.alloc ?_ (by first | omega | (simp; done) | (simp; omega)) _) | (with_reducible refine Below.setCell ?_ (by first | omega | (simp; done) | (simp; omega)) _) | (with_reducible refine Below.trans ?_ (Below.mono (by assumption) (by first | omega | (simp; done) | (simp; omega))))))⟩
    · simp [results, Try.results20, go_sem, *]
    · exact (BB _).out (by repeat (first | (with_reducible exact Below.refl _ _) | (with_reducible assumption) | (with_reducible refine Below.drew ?_) | (with_reducible refine Below_drewN ?_) | (with_reducible refine Below.alloc ?_ (by first | omega | (simp; done) | (simp; omega)) _) | (with_reducible refine Below.setCell ?_ (by first | omega | (simp; done) | (simp; omega)) _) | (with_reducible refine Below.trans ?_ (Below.mono (by assumption) (by first | omega | (simp; done) | (simp; omega))))))
  · rcases ho with rfl | ⟨rfl, hu⟩
    · go_enter Try.func20, Try.ntmps20
      go_wp2_with (go_at_call 33; refine (ref_hfault _ _ _ _ _ _ _ _ _ _ _ _ HC.out).mono ?_; rintro e w1 ⟨rfl, hb1⟩; obtain ⟨hc1, hf1⟩ := bcell hb1; have hz1 := blt hb1; have hy1 := hb1.size; (try simp at hy1))
      have BB : ∀ w', Hid (Below w.heap.size w w' → RowAt w' 1 (.slice ad M'.length cp) (bcells M')) := fun w' h => RowAt_below R.out h
      refine bodyPost_ret (v := .tuple #[.agg #[.slice ad M'.length cp, .bool false, .int .i64 u', .int .i64 t'], .bool false, .int .i64 0]) ?_ rfl ⟨_, rfl, ?_, (by repeat (first | (with_reducible exact Below.refl _ _) | (with_reducible assumption) | (with_reducible refine Below.drew ?_) | (with_reducible refine Below_drewN ?_) | (with_reducible refine Below.alloc ?_ (by first | omega | (simp; done) | (simp; omega)) _) | (with_reducible refine Below.setCell ?_ (by first | omega | (simp; done) | (simp; omega)) _) | (with_reducible refine Below.trans ?_ (Below.mono (by assumption) (by first | omega | (simp; done) | (simp; omega))))))⟩
      · simp [results, Try.results20, go_sem, *]
      · exact (BB _).out (by repeat (first | (with_reducible exact Below.refl _ _) | (with_reducible assumption) | (with_reducible refine Below.drew ?_) | (with_reducible refine Below_drewN ?_) | (with_reducible refine Below.alloc ?_ (by first | omega | (simp; done) | (simp; omega)) _) | (with_reducible refine Below.setCell ?_ (by first | omega | (simp; done) | (simp; omega)) _) | (with_reducible refine Below.trans ?_ (Below.mono (by assumption) (by first | omega | (simp; done) | (simp; omega))))))
    · go_enter Try.func20, Try.ntmps20
      go_wp2_with (go_at_call 33; refine (ref_hfault _ _ _ _ _ _ _ _ _ _ _ _ HC.out).mono ?_; rintro e w1 ⟨rfl, hb1⟩; obtain ⟨hc1, hf1⟩ := bcell hb1; have hz1 := blt hb1; have hy1 := hb1.size; (try simp at hy1))
      have BB : ∀ w', Hid (Below w.heap.size w w' → RowAt w' 1 (.slice ad M'.length cp) (bcells M')) := fun w' h => RowAt_below R.out h
      refine bodyPost_ret (v := .tuple #[.agg #[.slice ad M'.length cp, .bool true, .int .i64 u', .int .i64 t'], .bool false, .int .i64 0]) ?_ rfl ⟨_, rfl, ?_, (by repeat (first | (with_reducible exact Below.refl _ _) | (with_reducible assumption) | (with_reducible refine Below.drew ?_) | (with_reducible refine Below_drewN ?_) | (with_reducible refine Below.alloc ?_ (by first | omega | (simp; done) | (simp; omega)) _) | (with_reducible refine Below.setCell ?_ (by first | omega | (simp; done) | (simp; omega)) _) | (with_reducible refine Below.trans ?_ (Below.mono (by assumption) (by first | omega | (simp; done) | (simp; omega))))))⟩
      · simp [results, Try.results20, go_sem, *]
      · exact (BB _).out (by repeat (first | (with_reducible exact Below.refl _ _) | (with_reducible assumption) | (with_reducible refine Below.drew ?_) | (with_reducible refine Below_drewN ?_) | (with_reducible refine Below.alloc ?_ (by first | omega | (simp; done) | (simp; omega)) _) | (with_reducible refine Below.setCell ?_ (by first | omega | (simp; done) | (simp; omega)) _) | (with_reducible refine Below.trans ?_ (Below.mono (by assumption) (by first | omega | (simp; done) | (simp; omega))))))
end Go.Proofs.Ytjnfnmbkmgjdlaa

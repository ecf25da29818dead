/- picker's methods: their contracts. -/
import Derived.Test.YtjfnnbbnkcdbcaaPickL
import Derived.Test.YtjfnnbbnkcdbcaaIxcLd
import Derived.Deep.QuietTactic
import Derived.BigQuiet
import Derived.IntWalk
import Derived.WalkMore
namespace Go.Proofs.Ytjfnnbbnkcdbcaa
open Go.RowKit

def icells (C : List Int) : List (List Value) := C.map fun x => [Value.int .i64 x]
theorem icell {w : World} {v : Value} {C : List Int} (h : RowAt w 1 v (icells C)) : ∃ (a : Option Addr) (cap : Nat), v = .slice a C.length cap ∧ (C ≠ [] → ∃ b off, a = some ⟨b, off, none⟩ ∧ b < w.heap.size ∧ ∀ i, i < C.length → w.cell? ⟨b, off + i, none⟩ = some (.int .i64 (C.getD i 0))) := by
  obtain ⟨a, cap, rfl, _, _, _, h6⟩ := RowAt_fn 0 h
  refine ⟨a, cap, rfl, fun hne => ?_⟩
  obtain ⟨b, off, rfl, h7, h8⟩ := h6 hne
  exact ⟨b, off, rfl, h7, fun i hi => by have := h8 i 0 hi (by omega); simpa using this⟩

set_option maxRecDepth 100000 in
theorem of1 (x : Ld) (b : Nat) (backend : Int) (w : World) (h : w.cell? ⟨b, 0, none⟩ = some (.int .i64 backend)) : Calls Try.prog 73 #[Ld.agg x, .pointer (some ⟨b, 0, none⟩)] w fun e w' => e = .returned (.bool (lwIs backend x)) ∧ Below w.heap.size w w' := by
  obtain ⟨bk, wt, fl⟩ := x
  have lb := cell_lt h
  unfold Ld.agg
  by_cases h1 : bk = backend
  · subst h1
    by_cases h2 : 0 < wt
    · have HV : Hid (true = lwIs bk ⟨bk, wt, fl⟩) := by simp [Hid, lwIs, h2]
      go_enter Try.func73, Try.ntmps73
      go_wp2
      all_goals first | (go_ret; exact ⟨rB HV.out, (by repeat (first | (with_reducible exact Below.refl _ _) | (with_reducible assumption) | (with_reducible refine Below.drew ?_) | (with_reducible refine Below_drewN ?_) | (with_reducible refine Below.alloc ?_ (by first | omega | (simp; done) | (simp; omega)) _) | (with_reducible refine Below.setCell ?_ (by first | omega | (simp; done) | (simp; omega)) _) | (with_reducible refine Below.trans ?_ (Below.mono (by assumption) (by first | omega | (simp; done) | (simp; omega))))))⟩) | (exfalso; first | omega | (simp at *; omega) | (simp at *; done))
    · have HV : Hid (false = lwIs bk ⟨bk, wt, fl⟩) := by simp [Hid, lwIs, h2]
      have hd : decide (0 < wt) = false := by simpa using h2
      go_enter Try.func73, Try.ntmps73
      go_wp2
      all_goals first | (go_ret; exact ⟨rB HV.out, (by repeat (first | (with_reducible exact Below.refl _ _) | (with_reducible assumption) | (with_reducible refine Below.drew ?_) | (with_reducible refine Below_drewN ?_) | (with_reducible refine Below.alloc ?_ (by first | omega | (simp; done) | (simp; omega)) _) | (with_reducible refine Below.setCell ?_ (by first | omega | (simp; done) | (simp; omega)) _) | (with_reducible refine Below.trans ?_ (Below.mono (by assumption) (by first | omega | (simp; done) | (simp; omega))))))⟩) | (exfalso; first | omega | (simp at *; omega) | (simp at *; done))
  · have HV : Hid (false = lwIs backend ⟨bk, wt, fl⟩) := by simp [Hid, lwIs, h1]
    have hd : (bk == backend) = false := by simpa using h1
    clear h1
    go_enter Try.func73, Try.ntmps73
    go_wp2
    all_goals first | (go_ret; exact ⟨rB HV.out, (by repeat (first | (with_reducible exact Below.refl _ _) | (with_reducible assumption) | (with_reducible refine Below.drew ?_) | (with_reducible refine Below_drewN ?_) | (with_reducible refine Below.alloc ?_ (by first | omega | (simp; done) | (simp; omega)) _) | (with_reducible refine Below.setCell ?_ (by first | omega | (simp; done) | (simp; omega)) _) | (with_reducible refine Below.trans ?_ (Below.mono (by assumption) (by first | omega | (simp; done) | (simp; omega))))))⟩) | (exfalso; first | omega | (simp at *; omega) | (simp at *; done))

set_option maxHeartbeats 2000000 in
set_option maxRecDepth 100000 in
theorem prog_of (v cv : Value) (L : List Ld) (b : Int) (w : World) (hv : RowAt w 3 v (L.map Ld.cells)) (hn : L.length ≤ 12) (hcv : ∃ a n c, cv = .slice a n c) :
    Calls Try.prog 69 #[.agg #[v, cv], .int .i64 b] w fun e w' => e = .returned (.int .i64 (idxOf (lwIs b) L)) ∧ Below w.heap.size w w' := by
  have R := Lib.hid hv
  obtain ⟨a, c, rfl, _⟩ := RowAt_shape hv
  obtain ⟨a', n', c', rfl⟩ := hcv
  clear hv
  go_enter Try.func69, Try.ntmps69
  go_wp2_with fail
  refine (ixcLd_any 73 ⟨w.heap.size + 1, 0, none⟩ (fun _ _ => rfl) (lwIs b) _ L _ (RowAt_alloc (RowAt_alloc R.out _) _) (by omega) (fun x _ w' hb' => of1 x _ b w' (cell_below' hb' (by go_simp)))).mono ?_
  rintro e w1 ⟨rfl, hb1⟩
  have B1 := Lib.hid (((((Below.refl w.heap.size w).alloc (Nat.le_refl _) _).alloc (by simp) _)).trans (hb1.mono (by simp; omega)))
  clear hb1
  go_wp2
  all_goals first | (go_ret; exact ⟨rfl, B1.out⟩) | (exfalso; first | omega | (simp at *; omega) | (simp at *; done))

set_option maxHeartbeats 2000000 in
set_option maxRecDepth 100000 in
theorem prog_room (v cv : Value) (L : List Ld) (C : List Int) (i : Nat) (w : World) (hv : RowAt w 3 v (L.map Ld.cells)) (hc : RowAt w 1 cv (icells C)) (hi : i < L.length) (hl : C.length = L.length) :
    Calls Try.prog 70 #[.agg #[v, cv], .int .i64 i] w fun e w' => e = .returned (.bool (pkRoom L C i)) ∧ Below w.heap.size w w' := by
  obtain ⟨a, c, rfl, _, _, _, p⟩ := RowAt_fn Ld.zero hv
  obtain ⟨b0, o0, rfl, hb0, q⟩ := p (by intro h; rw [h] at hi; simp at hi)
  obtain ⟨a', c', rfl, p'⟩ := icell hc
  obtain ⟨b1, o1, rfl, hb1, q'⟩ := p' (by intro h; rw [h] at hl; simp at hl; omega)
  have a2 := q i 2 hi (by omega)
  have d0 := q' i (by omega)
  have HV : Hid (decide ((L.getD i Ld.zero).flows < C.getD i 0) = pkRoom L C i) := rfl
  have hi' : (i : Int) < (L.length : Int) := by omega
  have hi2 : (i : Int) < (C.length : Int) := by omega
  have p0 : (0 : Int) ≤ (i : Int) := by omega
  generalize (L.getD i Ld.zero) = s at a2 HV
  generalize C.getD i 0 = cc at d0 HV
  obtain ⟨bk, wt, fl⟩ := s
  simp only [Ld.cells, List.getElem?_cons_zero, List.getElem?_cons_succ] at a2 HV
  clear q q' p p' hv hc
  go_enter Try.func70, Try.ntmps70
  go_wp2_with fail
  go_quiet (fail)
  go_wp2
  all_goals first | (go_ret; exact ⟨rB HV.out, (by repeat (first | (with_reducible exact Below.refl _ _) | (with_reducible assumption) | (with_reducible refine Below.drew ?_) | (with_reducible refine Below_drewN ?_) | (with_reducible refine Below.alloc ?_ (by first | omega | (simp; done) | (simp; omega)) _) | (with_reducible refine Below.setCell ?_ (by first | omega | (simp; done) | (simp; omega)) _) | (with_reducible refine Below.trans ?_ (Below.mono (by assumption) (by first | omega | (simp; done) | (simp; omega))))))⟩) | (exfalso; first | omega | (simp at *; omega) | (simp at *; done))

end Go.Proofs.Ytjfnnbbnkcdbcaa

/- slices.IndexFunc and ContainsFunc at table.Check's closure; table.Check. -/
import Derived.Test.YtbemdijjdeimgaaSlot
namespace Go.Proofs.Ytbemdijjdeimgaa
open Go.RowKit

/-- A place was found. -/
def IdxPost (w : World) (e : Ending) (w' : World) : Prop := ∃ k : Nat, k ≤ 40 ∧ e = .returned (.int .i64 k) ∧ Below w.heap.size w w'

set_option maxHeartbeats 4000000 in
set_option maxRecDepth 100000 in
theorem IndexCheck_row (b0 o0 c0 : Nat) (X : List Sl) (w : World) (hb0 : b0 < w.heap.size) (hn : X.length ≤ 40) (h1 : ∀ i j, i < X.length → j < 4 → w.cell? ⟨b0, o0 + i * 4 + j, none⟩ = (X.getD i Sl.zero).cells[j]?) (hf : ∀ x ∈ X, SlMay x) :
    Calls Try.prog 28 #[.slice (some ⟨b0, o0, none⟩) X.length c0, (.func (.func 33) #[] #[])] w fun e w' => e = .returned (.int .i64 (-1)) ∧ Below w.heap.size w w' := by
  have H1 := Lib.hid h1
  have HF := Lib.hid hf
  have hn2 : X.length ≤ 9223372036854775807 := by omega
  clear h1 hf
  go_enter Try.func28, Try.ntmps28
  go_wp2
  go_loopw [8] (fun i wr => ∃ k : Nat, k ≤ X.length ∧ i = .int .i64 k ∧ Below w.heap.size w wr) (fun i _ => X.length - (intOf i).toNat)
  case atStart => exact ⟨0, Nat.zero_le _, rfl, Below.refl _ _⟩
  case round =>
    obtain ⟨k, hk, rfl, hbel⟩ := hrel
    rcases (show k < X.length ∨ X.length = k by omega) with hlt | heq
    · have hlt' : (k : Int) < (X.length : Int) := by omega
      obtain ⟨o, ho⟩ : ∃ o, o = X.getD k Sl.zero := ⟨_, rfl⟩
      have hfo : SlMay o := HF.out o (by rw [ho]; simp only [List.getD, List.getElem?_eq_getElem hlt, Option.getD_some]; exact List.getElem_mem _)
      have hold : ∀ j, j < 4 → wr.cell? ⟨b0, o0 + k * 4 + j, none⟩ = o.cells[j]? := fun j hj => by
        rw [hbel.cell (p := ⟨b0, o0 + k * 4 + j, none⟩) hb0, ho]; exact H1.out k j hlt hj
      clear ho
      have a0 := hold 0 (by omega)
      have a1 := hold 1 (by omega)
      have a2 := hold 2 (by omega)
      have a3 := hold 3 (by omega)
      clear hold
      have HFo := Lib.hid hfo
      clear hfo
      obtain ⟨g, u, ky, b⟩ := o
      simp only [Sl.cells, List.getElem?_cons_zero, List.getElem?_cons_succ, Nat.add_zero] at a0 a1 a2 a3
      have HB := Lib.hid hbel
      clear hbel
      go_wp2_with fail
      refine (Check1_yes _ _ _ _ _ HFo.out).mono ?_
      rintro e w1 ⟨rfl, hb1⟩
      have B1 := Lib.hid (HB.out.trans (hb1.mono HB.out.size))
      clear hb1 HB
      go_wp2
      go_roundw
      case rel => exact ⟨k + 1, by omega, by go_num, B1.out⟩
      case measure => simp [intOf]; omega
    · have hge : ¬ (k : Int) < (X.length : Int) := by omega
      go_wp2
      all_goals first | (go_ret; exact ⟨rfl, hbel⟩) | (exfalso; first | omega | (simp at *; omega) | (simp at *; done))
set_option maxHeartbeats 4000000 in
set_option maxRecDepth 100000 in
theorem IndexCheck_badrow (b0 o0 c0 : Nat) (X : List Sl) (w : World) (hb0 : b0 < w.heap.size) (hn : X.length ≤ 40) (h1 : ∀ i j, i < X.length → j < 4 → w.cell? ⟨b0, o0 + i * 4 + j, none⟩ = (X.getD i Sl.zero).cells[j]?) (hf : ∃ x ∈ X, ¬ SlMay x) :
    Calls Try.prog 28 #[.slice (some ⟨b0, o0, none⟩) X.length c0, (.func (.func 33) #[] #[])] w (IdxPost w) := by
  have H1 := Lib.hid h1
  have HF := Lib.hid hf
  have hn2 : X.length ≤ 9223372036854775807 := by omega
  clear h1 hf
  go_enter Try.func28, Try.ntmps28
  go_wp2
  go_loopw [8] (fun i wr => ∃ k : Nat, k ≤ X.length ∧ i = .int .i64 k ∧ Below w.heap.size w wr ∧ ∀ x ∈ X.take k, SlMay x) (fun i _ => X.length - (intOf i).toNat)
  case atStart => exact ⟨0, Nat.zero_le _, rfl, Below.refl _ _, fun x hx => by simp at hx⟩
  case round =>
    obtain ⟨k, hk, rfl, hbel, hall⟩ := hrel
    have HA := Lib.hid hall
    clear hall
    rcases (show k < X.length ∨ X.length = k by omega) with hlt | heq
    · have hlt' : (k : Int) < (X.length : Int) := by omega
      obtain ⟨o, ho⟩ : ∃ o, o = X.getD k Sl.zero := ⟨_, rfl⟩
      have hts : X.take (k + 1) = X.take k ++ [o] := by rw [ho, List.take_succ_eq_append_getElem hlt]; simp [List.getD, hlt]
      have HT := Lib.hid hts
      have hold : ∀ j, j < 4 → wr.cell? ⟨b0, o0 + k * 4 + j, none⟩ = o.cells[j]? := fun j hj => by
        rw [hbel.cell (p := ⟨b0, o0 + k * 4 + j, none⟩) hb0, ho]; exact H1.out k j hlt hj
      clear ho hts
      have a0 := hold 0 (by omega)
      have a1 := hold 1 (by omega)
      have a2 := hold 2 (by omega)
      have a3 := hold 3 (by omega)
      clear hold
      have HB := Lib.hid hbel
      clear hbel
      by_cases hfo : SlMay o
      · have hall2 : ∀ x ∈ X.take (k + 1), SlMay x := by rw [HT.out]; intro x hx; rcases List.mem_append.1 hx with h | h; exact HA.out x h; simp at h; rw [h]; exact hfo
        have HA2 := Lib.hid hall2
        have HFo := Lib.hid hfo
        clear hall2 hfo HA HT
        obtain ⟨g, u, ky, b⟩ := o
        simp only [Sl.cells, List.getElem?_cons_zero, List.getElem?_cons_succ, Nat.add_zero] at a0 a1 a2 a3
        go_wp2_with fail
        refine (Check1_yes _ _ _ _ _ HFo.out).mono ?_
        rintro e w1 ⟨rfl, hb1⟩
        have B1 := Lib.hid (HB.out.trans (hb1.mono HB.out.size))
        clear hb1 HB
        go_wp2
        go_roundw
        case rel => exact ⟨k + 1, by omega, by go_num, B1.out, HA2.out⟩
        case measure => simp [intOf]; omega
      · have HFo := Lib.hid hfo
        clear hfo HA HT
        obtain ⟨g, u, ky, b⟩ := o
        simp only [Sl.cells, List.getElem?_cons_zero, List.getElem?_cons_succ, Nat.add_zero] at a0 a1 a2 a3
        go_wp2_with fail
        refine (Check1_no _ _ _ _ _ HFo.out).mono ?_
        rintro e w1 ⟨rfl, hb1⟩
        have B1 := Lib.hid (HB.out.trans (hb1.mono HB.out.size))
        clear hb1 HB
        go_wp2
        go_ret
        exact ⟨k, by omega, rfl, B1.out⟩
    · exfalso
      obtain ⟨x, hx, hnx⟩ := HF.out
      exact hnx (HA.out x (by rw [List.take_of_length_le (by omega)]; exact hx))

set_option maxHeartbeats 1000000 in
set_option maxRecDepth 100000 in
theorem IndexCheck_nil (a : Option Addr) (c : Nat) (w : World) : Calls Try.prog 28 #[.slice a 0 c, (.func (.func 33) #[] #[])] w fun e w' => e = .returned (.int .i64 (-1)) ∧ Below w.heap.size w w' := by
  go_enter Try.func28, Try.ntmps28
  go_wp2
  refine wp_loop_rounds 1 ?_
  rw [rounds_succ]
  go_wp2
  all_goals first | (go_ret; exact ⟨rfl, Below.refl _ _⟩) | (exfalso; first | omega | (simp at *; omega) | (simp at *; done))

set_option maxHeartbeats 1000000 in
set_option maxRecDepth 100000 in
theorem ContainsCheck_no (v : Value) (X : List Sl) (w : World) (r : RowAt w 4 v (X.map Sl.cells)) (hn : X.length ≤ 40) (hf : ∀ x ∈ X, SlMay x) :
    Calls Try.prog 32 #[v, (.func (.func 33) #[] #[])] w fun e w' => e = .returned (.bool false) ∧ Below w.heap.size w w' := by
  have key : Calls Try.prog 28 #[v, (.func (.func 33) #[] #[])] w fun e w' => e = .returned (.int .i64 (-1)) ∧ Below w.heap.size w w' := by
    obtain ⟨a, c, rfl, l, m, n, p⟩ := RowAt_fn Sl.zero r
    by_cases hX : X = []
    · subst hX; exact IndexCheck_nil a c w
    · obtain ⟨b, o, rfl, hb, q⟩ := p hX
      exact IndexCheck_row b o c X w hb hn q hf
  have K := Lib.hid key
  obtain ⟨a, c, rfl, _⟩ := RowAt_shape r
  clear key r hf
  go_enter Try.func32, Try.ntmps32
  go_wp2_with fail
  refine K.out.mono ?_
  rintro e w1 ⟨rfl, hb1⟩
  have B1 := Lib.hid hb1
  clear hb1 K
  go_wp2
  all_goals first | (go_ret; exact ⟨rfl, B1.out⟩) | (exfalso; first | omega | (simp at *; omega) | (simp at *; done))

set_option maxHeartbeats 1000000 in
set_option maxRecDepth 100000 in
theorem ContainsCheck_yes (v : Value) (X : List Sl) (w : World) (r : RowAt w 4 v (X.map Sl.cells)) (hn : X.length ≤ 40) (hf : ∃ x ∈ X, ¬ SlMay x) :
    Calls Try.prog 32 #[v, (.func (.func 33) #[] #[])] w fun e w' => e = .returned (.bool true) ∧ Below w.heap.size w w' := by
  have key : Calls Try.prog 28 #[v, (.func (.func 33) #[] #[])] w (IdxPost w) := by
    obtain ⟨a, c, rfl, l, m, n, p⟩ := RowAt_fn Sl.zero r
    by_cases hX : X = []
    · subst hX; obtain ⟨x, hx, _⟩ := hf; cases hx
    · obtain ⟨b, o, rfl, hb, q⟩ := p hX
      exact IndexCheck_badrow b o c X w hb hn q hf
  have K := Lib.hid key
  obtain ⟨a, c, rfl, _⟩ := RowAt_shape r
  clear key r hf
  go_enter Try.func32, Try.ntmps32
  go_wp2_with fail
  refine K.out.mono ?_
  rintro e w1 ⟨k, hk, rfl, hb1⟩
  have B1 := Lib.hid hb1
  clear hb1 K
  go_wp2
  all_goals first | (go_ret; exact ⟨rfl, B1.out⟩) | (exfalso; first | omega | (simp at *; omega) | (simp at *; done))

/-- P5.1: may a table be? -/
def TabMay (X : List Sl) : Prop := 1 ≤ X.length ∧ X.length ≤ 40 ∧ ∀ x ∈ X, SlMay x
theorem not_TabMay {X : List Sl} (h : ¬ TabMay X) : X.length < 1 ∨ (1 ≤ X.length ∧ 40 < X.length) ∨ (1 ≤ X.length ∧ X.length ≤ 40 ∧ ∃ x ∈ X, ¬ SlMay x) := by
  by_cases h1 : X.length < 1
  · exact Or.inl h1
  by_cases h2 : 40 < X.length
  · exact Or.inr (Or.inl ⟨by omega, h2⟩)
  refine Or.inr (Or.inr ⟨by omega, by omega, ?_⟩)
  by_cases h3 : ∀ x ∈ X, SlMay x
  · exact absurd ⟨by omega, by omega, h3⟩ h
  · simpa using h3

set_option maxHeartbeats 2000000 in
set_option maxRecDepth 100000 in
theorem tabCheck_ok (v : Value) (X : List Sl) (w : World) (r : RowAt w 4 v (X.map Sl.cells)) (h : TabMay X) :
    Calls Try.prog 25 #[.agg #[v]] w fun e w' => e = .returned (.int .i64 0) ∧ Below w.heap.size w w' := by
  obtain ⟨h1, h2, h3⟩ := h
  have R := Lib.hid r
  obtain ⟨a, c, rfl, _⟩ := RowAt_shape r
  have H3 := Lib.hid h3
  have H2 := Lib.hid h2
  have g1 : (1 : Int) ≤ (X.length : Int) := by omega
  have g2 : (X.length : Int) ≤ 40 := by omega
  clear r h3 h1 h2
  go_enter Try.func25, Try.ntmps25
  go_wp2_with fail
  refine (ContainsCheck_no _ X _ (RowAt_alloc R.out _) H2.out H3.out).mono ?_
  rintro e w1 ⟨rfl, hb1⟩
  have B1 := Lib.hid (((Below.refl w.heap.size w).alloc (Nat.le_refl _) _).trans (hb1.mono (by simp)))
  clear hb1
  go_wp2
  all_goals first | (go_ret; exact ⟨rfl, B1.out⟩) | (exfalso; first | omega | (simp at *; omega) | (simp at *; done))

set_option maxHeartbeats 2000000 in
set_option maxRecDepth 100000 in
theorem tabCheck_bad (v : Value) (X : List Sl) (w : World) (r : RowAt w 4 v (X.map Sl.cells)) (h : ¬ TabMay X) :
    Calls Try.prog 25 #[.agg #[v]] w fun e w' => e = .returned (.int .i64 6) ∧ Below w.heap.size w w' := by
  have R := Lib.hid r
  obtain ⟨a, c, rfl, _⟩ := RowAt_shape r
  clear r
  rcases not_TabMay h with h1 | ⟨h1, h2⟩ | ⟨h1, h2, h3⟩
  · have g1 : (X.length : Int) < 1 := by omega
    clear h h1
    go_enter Try.func25, Try.ntmps25
    go_wp2_with fail
    all_goals first | (go_ret; exact ⟨rfl, (by repeat (first | (with_reducible exact Below.refl _ _) | (with_reducible assumption) | (with_reducible refine Below.drew ?_) | (with_reducible refine Below_drewN ?_) | (with_reducible refine Below.alloc ?_ (by first | omega | (simp; done) | (simp; omega)) _) | (with_reducible refine Below.setCell ?_ (by first | omega | (simp; done) | (simp; omega)) _) | (with_reducible refine Below.trans ?_ (Below.mono (by assumption) (by first | omega | (simp; done) | (simp; omega))))))⟩) | (exfalso; first | omega | (simp at *; omega) | (simp at *; done))
  · have g1 : (1 : Int) ≤ (X.length : Int) := by omega
    have g2 : (40 : Int) < (X.length : Int) := by omega
    clear h h1 h2
    go_enter Try.func25, Try.ntmps25
    go_wp2_with fail
    all_goals first | (go_ret; exact ⟨rfl, (by repeat (first | (with_reducible exact Below.refl _ _) | (with_reducible assumption) | (with_reducible refine Below.drew ?_) | (with_reducible refine Below_drewN ?_) | (with_reducible refine Below.alloc ?_ (by first | omega | (simp; done) | (simp; omega)) _) | (with_reducible refine Below.setCell ?_ (by first | omega | (simp; done) | (simp; omega)) _) | (with_reducible refine Below.trans ?_ (Below.mono (by assumption) (by first | omega | (simp; done) | (simp; omega))))))⟩) | (exfalso; first | omega | (simp at *; omega) | (simp at *; done))
  · have H3 := Lib.hid h3
    have H2 := Lib.hid h2
    have g1 : (1 : Int) ≤ (X.length : Int) := by omega
    have g2 : (X.length : Int) ≤ 40 := by omega
    clear h h3 h1 h2
    go_enter Try.func25, Try.ntmps25
    go_wp2_with fail
    refine (ContainsCheck_yes _ X _ (RowAt_alloc R.out _) H2.out H3.out).mono ?_
    rintro e w1 ⟨rfl, hb1⟩
    have B1 := Lib.hid (((Below.refl w.heap.size w).alloc (Nat.le_refl _) _).trans (hb1.mono (by simp)))
    clear hb1
    go_wp2
    all_goals first | (go_ret; exact ⟨rfl, B1.out⟩) | (exfalso; first | omega | (simp at *; omega) | (simp at *; done))
end Go.Proofs.Ytbemdijjdeimgaa

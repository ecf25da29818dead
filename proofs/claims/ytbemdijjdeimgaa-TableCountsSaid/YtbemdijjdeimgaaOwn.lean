/- Small laws on cells, rows and blocks. -/
import Derived.Test.YtbemdijjdeimgaaRow
namespace Go.Proofs.Ytbemdijjdeimgaa
open Go.RowKit

theorem cell_set_ne {w : World} {b g o i : Nat} {u : Value} (h : b ≠ g) : (w.setCell ⟨g, i, none⟩ u).cell? ⟨b, o, none⟩ = w.cell? ⟨b, o, none⟩ :=
  World.cell?_of_block (w := w) (w' := w.setCell ⟨g, i, none⟩ u) (a := ⟨b, o, none⟩) (Below.heap_setCell _ _ _ _ h)
theorem cell_drewN {w : World} {b o : Nat} {v : Value} (n : Nat) (h : w.cell? ⟨b, o, none⟩ = some v) : (w.drewN n).cell? ⟨b, o, none⟩ = some v := ((Below_drewN (n := n) (Below.refl (b + 1) w)).cell (p := ⟨b, o, none⟩) (Nat.lt_succ_self b)).trans h
theorem cell_below {w w' : World} {n b o : Nat} {v : Value} (hb : Below n w w') (h : w.cell? ⟨b, o, none⟩ = some v) (hn : b < n) : w'.cell? ⟨b, o, none⟩ = some v := (hb.cell (p := ⟨b, o, none⟩) hn).trans h
theorem cell_below' {w w' : World} {b o : Nat} {v : Value} (hb : Below w.heap.size w w') (h : w.cell? ⟨b, o, none⟩ = some v) : w'.cell? ⟨b, o, none⟩ = some v := cell_below hb h (cell_lt h)
theorem RowNew_drewN {B : Nat} {w : World} {sz : Nat} {v : Value} {L : List (List Value)} (h : RowNew B w sz v L) (n : Nat) : RowNew B (w.drewN n) sz v L := RowNew_below h (below_drewN (Below.refl _ _) n)
theorem RowNew_alloc {B : Nat} {w : World} {sz : Nat} {v : Value} {L : List (List Value)} (h : RowNew B w sz v L) (o : Obj) : RowNew B (w.alloc o) sz v L := RowNew_below h ((Below.refl _ _).alloc (Nat.le_refl _) _)
theorem RowAt_nil (w : World) (sz : Nat) : RowAt w sz (.slice none 0 0) [] := ⟨none, 0, rfl, by simp, by unfold maxLen; omega, fun _ => rfl, fun h => absurd rfl h⟩
theorem RowNew_nil (B : Nat) (w : World) (sz : Nat) : RowNew B w sz (.slice none 0 0) [] := ⟨RowAt_nil w sz, fun a n c h => by cases h⟩
theorem RowAt_lt {w : World} {sz : Nat} {v : Value} {L : List (List Value)} (h : RowAt w sz v L) : L.length ≤ maxLen := by
  obtain ⟨a, cap, rfl, h1, h2, _⟩ := h; omega
/-- A row lives on where its block does. -/
theorem RowAt_block {w w' : World} {sz : Nat} {v : Value} {L : List (List Value)} (h : RowAt w sz v L) (hb : ∀ a n c, v = .slice (some a) n c → a.block < w.heap.size → w'.heap[a.block]? = w.heap[a.block]?) : RowAt w' sz v L := by
  obtain ⟨a, cap, rfl, h1, h2, h3, h4⟩ := h
  refine ⟨a, cap, rfl, h1, h2, h3, fun hne => ?_⟩
  obtain ⟨b, off, rfl, h5, h6⟩ := h4 hne
  have hk := hb _ _ _ rfl h5
  have h5' : b < w'.heap.size := by
    simp only [Array.getElem?_eq_getElem h5] at hk
    rcases Nat.lt_or_ge b w'.heap.size with h' | h'
    · exact h'
    · rw [Array.getElem?_eq_none h'] at hk; cases hk
  refine ⟨b, off, rfl, h5', fun i j hi hj => ?_⟩
  rw [World.cell?_of_block (w := w) (w' := w') (a := ⟨b, off + i * sz + j, none⟩) hk]
  exact h6 i j hi hj
end Go.Proofs.Ytbemdijjdeimgaa

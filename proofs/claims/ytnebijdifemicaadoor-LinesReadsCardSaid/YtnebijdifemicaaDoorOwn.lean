/- Small laws on cells, rows and blocks. -/
import Derived.Test.YtnebijdifemicaaDoorRow
namespace Go.Proofs.YtnebijdifemicaaDoor
open Go.RowKit

theorem cell_set_ne {w : World} {b g o i : Nat} {u : Value} (h : b ≠ g) : (w.setCell ⟨g, i, none⟩ u).cell? ⟨b, o, none⟩ = w.cell? ⟨b, o, none⟩ :=
  World.cell?_of_block (w := w) (w' := w.setCell ⟨g, i, none⟩ u) (a := ⟨b, o, none⟩) (Below.heap_setCell _ _ _ _ h)
theorem cell_drewN {w : World} {b o : Nat} {v : Value} (n : Nat) (h : w.cell? ⟨b, o, none⟩ = some v) : (w.drewN n).cell? ⟨b, o, none⟩ = some v := ((Below_drewN (n := n) (Below.refl (b + 1) w)).cell (p := ⟨b, o, none⟩) (Nat.lt_succ_self b)).trans h
theorem cell_drew {w : World} {b o : Nat} {v : Value} (h : w.cell? ⟨b, o, none⟩ = some v) : w.drew.cell? ⟨b, o, none⟩ = some v := cell_drewN 1 h
theorem cell_below {w w' : World} {n b o : Nat} {v : Value} (hb : Below n w w') (h : w.cell? ⟨b, o, none⟩ = some v) (hn : b < n) : w'.cell? ⟨b, o, none⟩ = some v := (hb.cell (p := ⟨b, o, none⟩) hn).trans h
theorem cell_below' {w w' : World} {b o : Nat} {v : Value} (hb : Below w.heap.size w w') (h : w.cell? ⟨b, o, none⟩ = some v) : w'.cell? ⟨b, o, none⟩ = some v := cell_below hb h (cell_lt h)
theorem RowNew_drewN {B : Nat} {w : World} {sz : Nat} {v : Value} {L : List (List Value)} (h : RowNew B w sz v L) (n : Nat) : RowNew B (w.drewN n) sz v L := RowNew_below h (below_drewN (Below.refl _ _) n)
theorem RowNew_alloc {B : Nat} {w : World} {sz : Nat} {v : Value} {L : List (List Value)} (h : RowNew B w sz v L) (o : Obj) : RowNew B (w.alloc o) sz v L := RowNew_below h ((Below.refl _ _).alloc (Nat.le_refl _) _)
theorem RowAt_nil (w : World) (sz : Nat) : RowAt w sz (.slice none 0 0) [] := ⟨none, 0, rfl, by simp, by unfold maxLen; omega, fun _ => rfl, fun h => absurd rfl h⟩
theorem RowNew_at {B : Nat} {w : World} {sz : Nat} {v : Value} {L : List (List Value)} (h : RowNew B w sz v L) : RowAt w sz v L := h.1
theorem RowNew_nil (B : Nat) (w : World) (sz : Nat) : RowNew B w sz (.slice none 0 0) [] := ⟨RowAt_nil w sz, fun a n c h => by cases h⟩
/-- The end of a copy in memory of its own. -/
def NewPost (w : World) (sz : Nat) (L : List (List Value)) (e : Ending) (w' : World) : Prop := ∃ v, e = .returned v ∧ RowNew w.heap.size w' sz v L ∧ Below w.heap.size w w'
theorem RowAt_lt {w : World} {sz : Nat} {v : Value} {L : List (List Value)} (h : RowAt w sz v L) : L.length ≤ maxLen := by
  obtain ⟨a, cap, rfl, h1, h2, _⟩ := h; omega
/-- A row lives on where its block does. -/
theorem RowAt_block {w w' : World} {sz : Nat} {v : Value} {L : List (List Value)} (h : RowAt w sz v L) (hb : ∀ a n c, v = .slice (some a) n c → a.block < w.heap.size → w'.heap[a.block]? = w.heap[a.block]?) : RowAt w' sz v L := by
  obtain ⟨a, cap, rfl, h1, h2, h3, h4⟩ := h
  refine ⟨a, cap, rfl, h1, h2, h3, fun hne => ?_⟩
  obtain ⟨b, off, rfl, h5, h6⟩ := h4 hne
  have hk := hb _ _ _ rfl h5
  have h5' : b < w'.heap.size := by
    simp only [Array.getElem?_eq_getElem h5] at hk
    rcases Nat.lt_or_ge b w'.heap.size with h' | h'
    · exact h'
    · rw [Array.getElem?_eq_none h'] at hk; cases hk
  refine ⟨b, off, rfl, h5', fun i j hi hj => ?_⟩
  rw [World.cell?_of_block (w := w) (w' := w') (a := ⟨b, off + i * sz + j, none⟩) hk]
  exact h6 i j hi hj
theorem blk_cell {w : World} {b : Nat} {cs : Array Value} {T : TypeId} {fr : Nat × Nat} (h : w.heap[b]? = some (.cells cs T fr)) (j : Nat) : w.cell? ⟨b, j, none⟩ = cs[j]? := by
  simp [World.cell?, h]
theorem blk_free {w : World} {b : Nat} {cs : Array Value} {T : TypeId} (h : w.heap[b]? = some (.cells cs T (0, 0))) (j : Nat) : w.frozen? ⟨b, j, none⟩ = false := by
  simp [World.frozen?, h]
theorem own_keep {wr w' : World} {B sz n : Nat} {t : TypeId} {v : Value} {cs : List Value} (h : wr.ownsRow B t sz v n cs) (hb : Below wr.heap.size wr w') : w'.ownsRow B t sz v n cs := by
  obtain ⟨h1, h2 | ⟨g, cap, cur, h3, h4, h5, h6⟩⟩ := h
  · exact ⟨h1, Or.inl h2⟩
  · exact ⟨h1, Or.inr ⟨g, cap, cur, h3, h4, (hb.block _ (lt_of_block h5)).trans h5, h6⟩⟩
theorem grown_below {B : Nat} {wr wx w1 : World} {e : TypeId} {sz n cap : Nat} {a : Option Addr} {cs : List Value} (hx : Below wr.heap.size wr wx) (hB : B ≤ wr.heap.size) (hown : wr.ownsRow B e sz (.slice a n cap) n cs) (hgrow : wx.grownBy w1 (Value.slice a n cap).ownBlock) : Below B wr w1 :=
  (hx.mono hB).trans ((Below.refl _ _).grown hgrow (Nat.le_trans hB hx.size) (by
    intro r hr
    exact (hown.lt r hr).1))
theorem blk_set {w : World} {b j : Nat} {arr : Array Value} {T : TypeId} {fr : Nat × Nat} (h : w.heap[b]? = some (.cells arr T fr)) (u : Value) : (w.setCell ⟨b, j, none⟩ u).heap[b]? = some (.cells (arr.setIfInBounds j u) T fr) := by
  have hlt := lt_of_block h
  have h' : w.heap[b] = .cells arr T fr := by simpa [Array.getElem?_eq_getElem hlt] using h
  show (w.heap.modify b _)[b]? = _
  rw [Array.getElem?_eq_getElem (by simpa using hlt), Array.getElem_modify_self, h']
  rfl
theorem blk_set_ne {w : World} {b g j : Nat} {x : Option Obj} {u : Value} (h : w.heap[b]? = x) (hn : b ≠ g) : (w.setCell ⟨g, j, none⟩ u).heap[b]? = x := (Below.heap_setCell _ _ _ _ hn).trans h
theorem blk_below {w w' : World} {n b : Nat} {x : Option Obj} (hb : Below n w w') (h : w.heap[b]? = x) (hn : b < n) : w'.heap[b]? = x := (hb.block b hn).trans h
theorem free_alloc {w : World} {b o : Nat} (h : w.frozen? ⟨b, o, none⟩ = false) (hb : b < w.heap.size) (X : Obj) : (w.alloc X).frozen? ⟨b, o, none⟩ = false := (((Below.refl w.heap.size w).alloc (Nat.le_refl _) X).frozen (p := ⟨b, o, none⟩) hb).trans h
theorem news_lit {w : World} {n : Nat} (h : n = w.heap.size) (cs : List Value) (t : TypeId) : ∀ (j : Nat) (u : Value), cs[j]? = some u → (w.alloc (Obj.cells cs.toArray t)).cell? ((⟨n, 0, none⟩ : Addr).add j) = some u := by
  subst h; exact news_one cs t
end Go.Proofs.YtnebijdifemicaaDoor

/- Whole rows stored into a block. -/
import Derived.Test.YtnebijdifemicaaDoorOwn
import Derived.Laws.Tables
namespace Go.Proofs.YtnebijdifemicaaDoor
open Go.RowKit

theorem setRow_block {w : World} {b : Nat} {arr arr' : Array Value} {T : TypeId} {fr : Nat × Nat} (h : w.heap[b]? = some (.cells arr T fr)) : (w.setRow b arr').heap[b]? = some (.cells arr' T fr) := by
  have hlt := lt_of_block h
  have h' : w.heap[b] = .cells arr T fr := by simpa [Array.getElem?_eq_getElem hlt] using h
  show (w.heap.modify b _)[b]? = _
  rw [Array.getElem?_eq_getElem (by simpa using hlt), Array.getElem_modify_self, h']
theorem setRow_below {w : World} {b B : Nat} {a : World} {arr : Array Value} (h : Below B a w) (hB : B ≤ b) : Below B a (w.setRow b arr) :=
  h.trans ⟨rfl, rfl, rfl, by simp [World.setRow], fun k hk => by
    show (w.heap.modify b _)[k]? = _
    rw [Array.getElem?_modify, if_neg (by omega)]⟩
theorem RowNew_setRow {B : Nat} {w : World} {sz : Nat} {v : Value} {L : List (List Value)} (h : RowNew B w sz v L) {b : Nat} (hb : b < B) (arr : Array Value) : RowNew B (w.setRow b arr) sz v L := by
  obtain ⟨⟨a, cap, rfl, h1, h2, h3, h4⟩, h5⟩ := h
  refine ⟨⟨a, cap, rfl, h1, h2, h3, fun hne => ?_⟩, h5⟩
  obtain ⟨b', off, rfl, h6, h7⟩ := h4 hne
  have h8 := h5 _ _ _ rfl
  simp only at h8
  refine ⟨b', off, rfl, by simpa [World.setRow] using h6, fun i j hi hj => ?_⟩
  rw [← h7 i j hi hj]
  exact cell_setRow_other w b arr _ (by show b' ≠ b; omega)
theorem setRow_ne {w : World} {b g : Nat} {x : Option Obj} {arr : Array Value} (h : w.heap[b]? = x) (hn : b ≠ g) : (w.setRow g arr).heap[b]? = x := (setRow_other w g b arr hn).trans h
theorem cell_setRow_ne {w : World} {b g o : Nat} {arr : Array Value} {v : Value} (h : w.cell? ⟨b, o, none⟩ = some v) (hn : b ≠ g) : (w.setRow g arr).cell? ⟨b, o, none⟩ = some v :=
  (World.cell?_of_block (w := w) (w' := w.setRow g arr) (a := ⟨b, o, none⟩) (setRow_other w g b arr hn)).trans h
theorem wpList_store_rowF {P : Program} {ops : Array Oper} {rest : List Oper} {o : Oper} {a : Act} {w : World} {Q : Exit → Act → World → Prop} (hgd : o.guard = none) (ty : TypeId) (x y : Operand) (ho : o.op = .store ty x y)
    (g : Nat) (cells : Array Value) (hx : a.eval x = .pointer (some ⟨g, 0, none⟩)) (hy : a.eval y = .agg cells)
    (t : TypeId) (old : Array Value) (hg : w.heap[g]? = some (.cells old t (0, 0))) (hi : (P.info? ty).map (·.size) = some cells.size)
    (hold : old.size = cells.size) (h1 : cells.all (·.oneCell') = true)
    (h : ∀ W2 : World, W2.heap[g]? = some (.cells cells t (0, 0)) → (∀ b, b ≠ g → W2.heap[b]? = w.heap[b]?) → W2.heap.size = w.heap.size → Below g w W2 → wpList P ops Q rest (a.put o.dst undef) W2) : wpList P ops Q (o :: rest) a w :=
  wpList_store_row hgd ty x y ho g cells hx hy t old hg hi hold h1 (h _ (setRow_block hg) (fun b hb => setRow_other w g b cells hb) (by simp [World.setRow]) (setRow_below (Below.refl g w) (Nat.le_refl g)))
end Go.Proofs.YtnebijdifemicaaDoor

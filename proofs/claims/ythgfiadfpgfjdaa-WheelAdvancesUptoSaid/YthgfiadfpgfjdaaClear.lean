/- clear of the rest of a row that the call owns; a row cut at its front part. -/
import Derived.Test.YthgfiadfpgfjdaaSetRow
import Derived.Laws.IdiomCopy
namespace Go.Proofs.Ythgfiadfpgfjdaa
open Go.RowKit
theorem setCells_block {b : Nat} {t : TypeId} : ∀ (vs : List Value) (o : Nat) (cur : Array Value) (w : World), w.heap[b]? = some (.cells cur t (0, 0)) → ∃ cur', (w.setCells b o vs).heap[b]? = some (.cells cur' t (0, 0)) ∧ cur'.size = cur.size ∧ ∀ k, k ≤ o → cur'.toList.take k = cur.toList.take k := by
  intro vs
  induction vs with
  | nil => exact fun o cur w h => ⟨cur, h, rfl, fun _ _ => rfl⟩
  | cons v vs ih =>
    intro o cur w h
    obtain ⟨cur', h1, h2, h3⟩ := ih (o + 1) _ (w.setCell ⟨b, o, none⟩ v) (blk_set h v)
    refine ⟨cur', h1, by rw [h2]; simp, fun k hk => ?_⟩
    rw [h3 k (by omega), Array.toList_setIfInBounds, List.take_set, List.set_eq_of_length_le (by rw [List.length_take]; omega)]
theorem setCells_ne {b : Nat} : ∀ (vs : List Value) (o : Nat) (w : World) (k : Nat), k ≠ b → (w.setCells b o vs).heap[k]? = w.heap[k]? := by
  intro vs
  induction vs with
  | nil => exact fun _ _ _ _ => rfl
  | cons v vs ih => intro o w k hk; exact (ih (o + 1) _ k hk).trans (Below.heap_setCell _ _ _ _ hk)
theorem setCells_size {b : Nat} : ∀ (vs : List Value) (o : Nat) (w : World), (w.setCells b o vs).heap.size = w.heap.size := by
  intro vs
  induction vs with
  | nil => exact fun _ _ => rfl
  | cons v vs ih => intro o w; rw [World.setCells, ih]; simp
theorem setCells_below {b B : Nat} {a : World} (hB : B ≤ b) : ∀ (vs : List Value) (o : Nat) (w : World), Below B a w → Below B a (w.setCells b o vs) := by
  intro vs
  induction vs with
  | nil => exact fun _ _ h => h
  | cons v vs ih => intro o w h; exact ih (o + 1) _ (h.setCell (by simpa using hB) _)
/-- The front part of a row. -/
theorem own_front {w : World} {B sz n cap g i : Nat} {t : TypeId} {cs : List Value} (h : w.ownsRow B t sz (.slice (some ⟨g, 0, none⟩) n cap) n cs) (hi : i ≤ n) : w.ownsRow B t sz (.slice (some ⟨g, 0, none⟩) i cap) i (cs.take (i * sz)) := by
  rcases h.2 with ⟨e0, _⟩ | ⟨g', cap', cur, e0, hb, hg, hn, hm, hs, ht⟩
  · cases e0
  · injection e0 with e1 _ e3
    injection e1 with e1
    injection e1 with e1
    subst e1; subst e3
    have hle : i * sz ≤ n * sz := Nat.mul_le_mul_right _ hi
    refine ⟨by rw [List.length_take, h.1]; omega, .inr ⟨g, cap, cur, rfl, hb, hg, by omega, hm, hs, ?_⟩⟩
    rw [← ht, List.take_take, Nat.min_eq_left hle]
theorem own_cleared {w : World} {B sz n cap g i o : Nat} {t : TypeId} {cs : List Value} (h : w.ownsRow B t sz (.slice (some ⟨g, 0, none⟩) n cap) n cs) (hi : i ≤ n) (ho : i * sz ≤ o) (vs : List Value) : (w.setCells g o vs).ownsRow B t sz (.slice (some ⟨g, 0, none⟩) i cap) i (cs.take (i * sz)) := by
  have h' := own_front h hi
  rcases h'.2 with ⟨e0, _⟩ | ⟨g', cap', cur, e0, hb, hg, hn, hm, hs, ht⟩
  · cases e0
  · injection e0 with e1 _ e3
    injection e1 with e1
    injection e1 with e1
    subst e1; subst e3
    obtain ⟨cur', h1, h2, h3⟩ := setCells_block vs o cur w hg
    refine ⟨h'.1, .inr ⟨g, cap, cur', rfl, hb, h1, hn, hm, by rw [h2]; exact hs, ?_⟩⟩
    rw [h3 _ ho, ht]
theorem run_clear_slice {P : Program} (w : World) (t e ty : TypeId) (i0 : TypeInfo) (z : Value) (g o n c : Nat) (hu : P.underlying t = some (.slice e)) (hi : P.info? e = some i0) (hz : i0.zero = some z)
    (hc : ∀ j, j < n * z.cells.size → (w.cell? ⟨g, o + j, none⟩).isSome = true) (hf : ∀ j, w.frozen? ⟨g, o + j, none⟩ = false) (h1 : ∀ v ∈ z.cells.toList, v.oneCell' = true) :
    ∃ vs : List Value, (Builtin.clear_ #[t] ty #[.slice (some ⟨g, o, none⟩) n c]).run P w = .ok (.tuple #[]) (w.setCells g o vs) := by
  cases n with
  | zero => exact ⟨[], by simp [Builtin.clear_, run_underlying hu, World.setCells]⟩
  | succ n =>
    have hl : (Builtin.zeroCells z.cells (n + 1)).toList.length = (n + 1) * z.cells.size := by simp [Builtin.zeroCells]
    have hst := run_storeCells_cells (P := P) g o (Builtin.zeroCells z.cells (n + 1)).toList 0 w (by intro j hj; rw [hl] at hj; exact hc j hj) (by intro j _; exact hf j) (by
      intro v hv
      simp only [Builtin.zeroCells, Array.toList_map, List.mem_map, Array.toList_range, List.mem_range] at hv
      obtain ⟨k, hk, rfl⟩ := hv
      have hpos : 0 < z.cells.size := by
        rcases Nat.eq_zero_or_pos z.cells.size with h | h
        · rw [h] at hk; simp at hk
        · exact h
      have hlt : k % z.cells.size < z.cells.size := Nat.mod_lt _ hpos
      rw [getElem!_pos z.cells _ hlt]
      exact h1 _ (Array.getElem_mem_toList hlt))
    refine ⟨(Builtin.zeroCells z.cells (n + 1)).toList, ?_⟩
    rw [Nat.add_zero] at hst
    simp [Builtin.clear_, run_underlying hu, zeroValue, typeInfo, hi, hz, hst]
theorem own_cap {w : World} {B sz n cap g : Nat} {t : TypeId} {cs : List Value} (h : w.ownsRow B t sz (.slice (some ⟨g, 0, none⟩) n cap) n cs) : n ≤ cap ∧ cap ≤ maxLen := by
  rcases h.2 with ⟨e0, _⟩ | ⟨g', cap', cur, e0, _, _, hn, hm, _⟩
  · cases e0
  · injection e0 with _ _ e3
    subst e3; exact ⟨hn, hm⟩
/-- clear(s[i:]) of a row of one's own: what it leaves. -/
theorem clear_rest {P : Program} {w : World} (t e ty : TypeId) {i0 : TypeInfo} (z : Value) (sz g n cap i c B : Nat) {cs : List Value} (hu : P.underlying t = some (.slice e)) (hi : P.info? e = some i0) (hz : i0.zero = some z) (hs : z.cells.size = sz)
    (h1 : ∀ v ∈ z.cells.toList, v.oneCell' = true) (hown : w.ownsRow B e sz (.slice (some ⟨g, 0, none⟩) n cap) n cs) (hin : i ≤ n) :
    ∃ W2 : World, (Builtin.clear_ #[t] ty #[.slice (some ⟨g, i * sz, none⟩) (n - i) c]).run P w = .ok (.tuple #[]) W2 ∧ (∀ b, b ≠ g → W2.heap[b]? = w.heap[b]?) ∧ W2.heap.size = w.heap.size ∧ Below B w W2 ∧ W2.ownsRow B e sz (.slice (some ⟨g, 0, none⟩) i cap) i (cs.take (i * sz)) := by
  have hgB : B ≤ g := (hown.lt _ rfl).1
  obtain ⟨vs, hrun⟩ := run_clear_slice (P := P) w t e ty i0 z g (i * sz) (n - i) c hu hi hz (by
    intro j hj
    rw [hs] at hj
    have h2 : i * sz + j < n * sz := by
      have : (i + (n - i)) * sz = n * sz := by rw [show i + (n - i) = n by omega]
      rw [Nat.add_mul] at this; omega
    rw [hown.cellAt _ h2]
    have : i * sz + j < cs.length := by rw [hown.1]; exact h2
    simp [this]) (fun j => hown.frozenAt _) h1
  exact ⟨_, hrun, fun b hb => setCells_ne vs _ w b hb, setCells_size vs _ w, setCells_below hgB vs _ w (Below.refl _ _), own_cleared hown hin (Nat.le_refl _) vs⟩
end Go.Proofs.Ythgfiadfpgfjdaa

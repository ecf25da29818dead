/- A field of a life that is written where it stands. -/
import Derived.Test.YthngedmmeiiklaaLifeOf
namespace Go.Proofs.Ythngedmmeiiklaa
open Go.RowKit

theorem flatten_set {sz : Nat} (v : Value) {j : Nat} (hj : j < sz) : ∀ {L : List (List Value)}, (∀ c ∈ L, c.length = sz) → ∀ {i : Nat}, i < L.length → L.flatten.set (i * sz + j) v = (L.set i ((L.getD i []).set j v)).flatten := by
  intro L
  induction L with
  | nil => intro _ i hi; simp at hi
  | cons c L ih =>
    intro h i hi
    have hc := h c List.mem_cons_self
    cases i with
    | zero =>
      simp only [Nat.zero_mul, Nat.zero_add, List.flatten_cons, List.set_cons_zero, List.getD_cons_zero]
      rw [List.set_append_left _ _ (by omega)]
    | succ i =>
      have e : (i + 1) * sz + j = c.length + (i * sz + j) := by rw [hc, Nat.add_mul]; omega
      simp only [List.flatten_cons, List.set_cons_succ, List.getD_cons_succ]
      rw [e, List.set_append_right _ _ (by omega), Nat.add_sub_cancel_left, ih (fun d hd => h d (List.mem_cons_of_mem _ hd)) (by simpa using hi)]
theorem own_field {w : World} {B e g n cap : Nat} {L : List Lf} {i j : Nat} {x : Lf} {v : Value} (h : w.ownsRow B e 6 (.slice (some ⟨g, 0, none⟩) n cap) n (L.map Lf.cells).flatten) (hi : i < L.length) (hj : j < 6) (hx : x.cells = (L.getD i Lf.zero).cells.set j v) :
    (w.setCell ⟨g, i * 6 + j, none⟩ v).ownsRow B e 6 (.slice (some ⟨g, 0, none⟩) n cap) n ((L.set i x).map Lf.cells).flatten := by
  have h1 := (h.stored (i * 6 + j) v).1
  rw [flatten_set v hj (lenb_Lf L) (by simpa using hi)] at h1
  rw [List.map_set, hx]
  simpa [List.getD, hi] using h1
theorem BkAt.field {B : Nat} {w : World} {p g cap : Nat} {v2 v : Value} {L : List Lf} {R : List Rq} {i j : Nat} {x : Lf} (h : BkAt B w p (.slice (some ⟨g, 0, none⟩) L.length cap) v2 L R) (hi : i < L.length) (hj : j < 6) (hx : x.cells = (L.getD i Lf.zero).cells.set j v) :
    BkAt B (w.setCell ⟨g, i * 6 + j, none⟩ v) p (.slice (some ⟨g, 0, none⟩) L.length cap) v2 (L.set i x) R := by
  have hg := h.l1 g rfl
  refine ⟨h.hB, blk_set_ne h.hh (by omega), ?_, ownsRow_setCell_other h.o2 (h.dis g rfl) _, h.l1, h.l2, h.dis⟩
  rw [List.length_set]
  exact own_field h.o1 hi hj hx
end Go.Proofs.Ythngedmmeiiklaa

/- api.Book as it comes in. -/
import Derived.Test.YthngedmmeiiklaaOpen
import Derived.Test.YthngedmmeiiklaaOwn
namespace Go.Proofs.Ythngedmmeiiklaa
open Go.ChangeShapes Go.WideShapes Go.ChangeAt Go.RowKit

set_option maxRecDepth 100000
def Is_Book (W : World) (v : Value) : Prop := ∃ (vl vr : Value) (L : List Lf) (R : List Rq), v = .agg #[vl, vr] ∧ RowAt W 6 vl (L.map Lf.cells) ∧ RowAt W 5 vr (R.map Rq.cells) ∧ (∀ x ∈ L, x.ok) ∧ (∀ x ∈ R, x.ok) ∧ L.length * 48 ≤ 140737488351232 ∧ R.length * 40 ≤ 140737488351232
section
variable {H : Type} {enc : TypeId × Value → H} {W : World} {base : Nat} {v : Value} {d : DataW H} {p : List MemPlace}
theorem opn_Book (hv : Value.okWide Try.prog W .any base 25 v) (h : DataW.Trod enc Try.prog W 0 (fun _ => true) true 25 v d p) (hz : ∀ y ∈ d.weights Try.prog 25, y ≤ reachBytes) : Is_Book W v := by
  obtain ⟨cs, rfl, hlen, n, hf⟩ := open_fields Try.underlying25 hv h hz
  rw [show Try.prog.cellsOf 25 = 2 from by kernel_rfl] at hlen
  obtain ⟨c0, c1, rfl⟩ : ∃ c0 c1, cs = [c0, c1] := by
    match cs, hlen with
    | [c0, c1], _ => exact ⟨c0, c1, rfl⟩
  obtain ⟨x0, h0, z0⟩ := hf 0 _ rfl
  obtain ⟨x1, h1, z1⟩ := hf 1 _ rfl
  have h0 : DataW.trod enc Try.prog W 0 (fun _ => true) true n 22 ((([c0, c1] : List Value).drop 0).take (Try.prog.cellsOf 22)) = some x0 := h0
  have h1 : DataW.trod enc Try.prog W 0 (fun _ => true) true n 23 ((([c0, c1] : List Value).drop 1).take (Try.prog.cellsOf 23)) = some x1 := h1
  rw [show Try.prog.cellsOf 22 = 1 from by kernel_rfl] at h0
  rw [show Try.prog.cellsOf 23 = 1 from by kernel_rfl] at h1
  simp only [List.drop_succ_cons, List.drop_zero, List.take_succ_cons, List.take_zero] at h0 h1
  obtain ⟨s, L, hs, hL⟩ := open_slflat_cells 6 Try.underlying22 (by kernel_rfl : flatK Try.prog 6 44 = some [some .i64, some .i64, some .i64, some .i64, some .i64, some .i64]) (by kernel_rfl : Try.prog.cellsOf 44 = 6) h0 z0
  obtain ⟨s', L', hs', hL'⟩ := open_slflat_cells 6 Try.underlying23 (by kernel_rfl : flatK Try.prog 6 31 = some [some .i64, some .i64, some .i64, some .i64, some .i64]) (by kernel_rfl : Try.prog.cellsOf 31 = 5) h1 z1
  simp only [List.cons.injEq, and_true] at hs hs'
  subst hs hs'
  rw [show Try.prog.bytesOf 44 = 48 from by kernel_rfl] at hL
  rw [show Try.prog.bytesOf 31 = 40 from by kernel_rfl] at hL'
  obtain ⟨X, r1, r2, r3⟩ := open_rows (by decide) (fun _ => Lf.of_flat) hL
  obtain ⟨Y, q1, q2, q3⟩ := open_rows (by decide) (fun _ => Rq.of_flat) hL'
  exact ⟨_, _, X, Y, rfl, r1, q1, r2, q2, r3, q3⟩
end
end Go.Proofs.Ythngedmmeiiklaa

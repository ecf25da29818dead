/- What is known of a ring that comes in. -/
import Derived.Test.YtmhbkpgacdmjpaaOpen
namespace Go.Proofs.Ytmhbkpgacdmjpaa
open Go.ChangeShapes Go.WideShapes Go.ChangeAt Go.RowKit

set_option maxRecDepth 100000
section
variable {H : Type} {enc : TypeId × Value → H} {W : World} {base : Nat} {v : Value} {d : DataW H} {p : List MemPlace}

def Is_Ring (W : World) (v : Value) : Prop := ∃ (s : Value) (X : List Sp), v = .agg #[s] ∧ RowAt W 2 s (X.map Sp.cells) ∧ (∀ x ∈ X, x.ok) ∧ X.length * 16 ≤ 140737488351232
theorem opn_Ring (hv : Value.okWide Try.prog W .any base 24 v) (h : DataW.Trod enc Try.prog W 0 (fun _ => true) true 24 v d p) (hz : ∀ y ∈ d.weights Try.prog 24, y ≤ reachBytes) : Is_Ring W v := by
  obtain ⟨cs, rfl, hlen, n, hf⟩ := open_fields Try.underlying24 hv h hz
  rw [show Try.prog.cellsOf 24 = 1 from by kernel_rfl] at hlen
  obtain ⟨c0, rfl⟩ : ∃ c, cs = [c] := List.length_eq_one_iff.1 hlen
  obtain ⟨x0, h0, z0⟩ := hf 0 _ rfl
  have h0 : DataW.trod enc Try.prog W 0 (fun _ => true) true n 22 ((([c0] : List Value).drop 0).take (Try.prog.cellsOf 22)) = some x0 := h0
  rw [show Try.prog.cellsOf 22 = 1 from by kernel_rfl] at h0
  obtain ⟨s, L, hs, hL⟩ := open_slflat_cells 6 Try.underlying22 (by kernel_rfl : flatK Try.prog 6 45 = some [some .i64, some .i64]) (by kernel_rfl : Try.prog.cellsOf 45 = 2) h0 z0
  simp only [List.drop_zero, List.take_succ_cons, List.take_zero, List.cons.injEq, and_true] at hs
  subst hs
  rw [show Try.prog.bytesOf 45 = 16 from by kernel_rfl] at hL
  obtain ⟨X, h1, h2, h3⟩ := open_rows (by decide) (fun _ => Sp.of_flat) hL
  exact ⟨_, X, rfl, h1, h2, h3⟩
end
end Go.Proofs.Ytmhbkpgacdmjpaa

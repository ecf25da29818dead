/- []byte as it comes in. -/
import Derived.Test.YtjfnnbbnkcdbcaaOpen
import Derived.Test.YtjfnnbbnkcdbcaaOwn
namespace Go.Proofs.Ytjfnnbbnkcdbcaa
open Go.ChangeShapes Go.WideShapes Go.ChangeAt Go.RowKit

set_option maxRecDepth 100000
theorem byte_of_flat {cs : List Value} (h : FlatC [some .u8] cs) : ∃ x : Int, cs = [Value.int .u8 x] ∧ (0 ≤ x ∧ x ≤ 255) := by
  obtain ⟨a, c, rfl, w, h1⟩ := FlatC_int h
  obtain rfl := FlatC_nil h1
  exact ⟨a, rfl, by simp [Lit.wf, IntKind.min, IntKind.max, IntKind.signed, IntKind.bits] at w; omega⟩
def Is_sl_uint8 (W : World) (v : Value) : Prop := ∃ X : List Int, RowAt W 1 v (X.map fun x => [Value.int .u8 x]) ∧ (∀ x ∈ X, (0 ≤ x ∧ x ≤ 255)) ∧ X.length * 1 ≤ 140737488351232
section
variable {H : Type} {enc : TypeId × Value → H} {W : World} {base : Nat} {v : Value} {d : DataW H} {p : List MemPlace}
theorem opn_sl_uint8 (hv : Value.okWide Try.prog W .any base 27 v) (h : DataW.Trod enc Try.prog W 0 (fun _ => true) true 27 v d p) (hz : ∀ y ∈ d.weights Try.prog 27, y ≤ reachBytes) : Is_sl_uint8 W v := by
  obtain ⟨L, hL⟩ := open_slflat 6 Try.underlying27 (by kernel_rfl : flatK Try.prog 6 5 = some [some .u8]) (by kernel_rfl : Try.prog.cellsOf 5 = 1) hv h hz
  rw [show Try.prog.bytesOf 5 = 1 from by kernel_rfl] at hL
  exact open_rows (f := fun x : Int => [Value.int .u8 x]) (by decide) (fun _ => byte_of_flat) hL
end
end Go.Proofs.Ytjfnnbbnkcdbcaa

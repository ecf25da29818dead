/- []int as it comes in. -/
import Derived.Test.YtjfnnbbnkcdbcaaOpen
import Derived.Test.YtjfnnbbnkcdbcaaOwn
namespace Go.Proofs.Ytjfnnbbnkcdbcaa
open Go.ChangeShapes Go.WideShapes Go.ChangeAt Go.RowKit

set_option maxRecDepth 100000
theorem int_of_flat {cs : List Value} (h : FlatC [some .i64] cs) : ∃ x : Int, cs = [Value.int .i64 x] ∧ I64 x := by
  obtain ⟨a, c, rfl, w, h1⟩ := FlatC_int h
  obtain rfl := FlatC_nil h1
  exact ⟨a, rfl, I64_of_wf w⟩
def Is_sl_int (W : World) (v : Value) : Prop := ∃ X : List Int, RowAt W 1 v (X.map fun x => [Value.int .i64 x]) ∧ (∀ x ∈ X, I64 x) ∧ X.length * 8 ≤ 140737488351232
section
variable {H : Type} {enc : TypeId × Value → H} {W : World} {base : Nat} {v : Value} {d : DataW H} {p : List MemPlace}
theorem opn_sl_int (hv : Value.okWide Try.prog W .any base 65 v) (h : DataW.Trod enc Try.prog W 0 (fun _ => true) true 65 v d p) (hz : ∀ y ∈ d.weights Try.prog 65, y ≤ reachBytes) : Is_sl_int W v := by
  obtain ⟨L, hL⟩ := open_slflat 6 Try.underlying65 (by kernel_rfl : flatK Try.prog 6 3 = some [some .i64]) (by kernel_rfl : Try.prog.cellsOf 3 = 1) hv h hz
  rw [show Try.prog.bytesOf 3 = 8 from by kernel_rfl] at hL
  exact open_rows (f := fun x : Int => [Value.int .i64 x]) (by decide) (fun _ => int_of_flat) hL
end
end Go.Proofs.Ytjfnnbbnkcdbcaa

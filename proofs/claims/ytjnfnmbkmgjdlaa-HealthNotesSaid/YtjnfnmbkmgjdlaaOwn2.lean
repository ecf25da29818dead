/- More small laws. -/
import Derived.Test.YtjnfnmbkmgjdlaaOwn
namespace Go.Proofs.Ytjnfnmbkmgjdlaa
open Go.RowKit

theorem set_set (w : World) (b o : Nat) (v v' : Value) : (w.setCell ⟨b, o, none⟩ v).setCell ⟨b, o, none⟩ v' = w.setCell ⟨b, o, none⟩ v' := by
  simp only [World.setCell]
  congr 1
  apply Array.ext_getElem?
  intro i
  simp only [Array.getElem?_modify]
  by_cases hi : b = i
  · simp only [hi, if_true]
    cases w.heap[i]? with
    | none => rfl
    | some x => cases x <;> simp
  · simp only [hi, if_false]
end Go.Proofs.Ytjnfnmbkmgjdlaa

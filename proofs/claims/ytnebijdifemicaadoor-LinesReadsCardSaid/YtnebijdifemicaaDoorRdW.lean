/- The walk of LinesReads. -/
import Derived.Test.YtnebijdifemicaaDoorRd
import Derived.Test.YtnebijdifemicaaDoorOpen
namespace Go.Proofs.YtnebijdifemicaaDoor
open Go.RowKit
set_option maxRecDepth 100000
section
open Go.ChangeShapes Go.WideShapes Go.ChangeAt
variable {H : Type} {enc : TypeId × Value → H} {W : World} {base : Nat} {v : Value} {d : DataW H} {p : List MemPlace}
def Is_string (_ : World) (v : Value) : Prop := ∃ T : List UInt8, v = .string ⟨T.toArray⟩
theorem opn_string (hv : Value.okWide Tryd.prog W .any base 9 v) (h : DataW.Trod enc Tryd.prog W 0 (fun _ => true) true 9 v d p) (_hz : ∀ y ∈ d.weights Tryd.prog 9, y ≤ reachBytes) : Is_string W v := by
  obtain ⟨s, rfl, _, _, _⟩ := Go.ChangeMaps.open_string Tryd.underlying9 hv h
  exact ⟨s.data.toList, rfl⟩
end
set_option maxHeartbeats 4000000 in
set_option maxRecDepth 100000 in
theorem walk_LinesReads (v0 : Value) (W : World) (hw : LnX W) (o0 : Is_string W v0) :
    Calls Tryd.prog 4 #[v0] W fun e w' => e = .returned (.bool true) ∧ Below W.heap.size W w' := by
  obtain ⟨T, rfl⟩ := o0
  have HW := Lib.hid hw
  clear hw
  go_enter Tryd.func4, Tryd.ntmps4
  go_wp2_with fail
  refine (prog_Read T _ HW.out).mono ?_
  rintro e w1 ⟨r, i, c, v, rfl, hA, R1, hb1⟩
  obtain ⟨a1, c1, rfl, _⟩ := RowAt_shape R1
  have HA := Lib.hid hA
  have RC1 := Lib.hid R1
  have B1 := Lib.hid hb1
  clear hA R1 hb1
  go_wp2_with fail
  refine (ref_EventsRead T _).mono ?_
  rintro e w2 ⟨r', i', c', v', rfl, hA, R2, hb2⟩
  obtain ⟨a2, c2, rfl, _⟩ := RowAt_shape R2
  obtain ⟨rfl, rfl, rfl⟩ := ReadAns_fun HA.out hA
  have RC2 := Lib.hid R2
  have RC3 := Lib.hid (RowAt_below RC1.out hb2)
  have B2 := Lib.hid (B1.out.trans (hb2.mono B1.out.size))
  clear hA R2 hb2
  go_wp2_with (go_at_call 8; refine (sameEvents_yes _ _ r _ RC3.out RC2.out).mono ?_; rintro e w4 ⟨rfl, hb4⟩; have B4 := (B2.out.trans (hb4.mono B2.out.size)))
  all_goals first | (go_ret; exact ⟨rfl, B4⟩) | (exfalso; first | omega | (simp at *; omega) | (simp at *; done))
end Go.Proofs.YtnebijdifemicaaDoor

/- The walk of LinesShows. -/
import Derived.Test.YtnebijdifemicaaDoorRsh
import Derived.Test.YtnebijdifemicaaDoorCopyevents
import Derived.Test.YtnebijdifemicaaDoorSameEvents
namespace Go.Proofs.YtnebijdifemicaaDoor
open Go.RowKit
theorem EvCode_fun {x : Ev} {a b : Int} (h1 : EvCode x a) (h2 : EvCode x b) : a = b := by
  rcases h1 with ⟨p, rfl⟩ | ⟨p, q, rfl⟩ | ⟨p, q, r, rfl⟩ | ⟨p, q, r, rfl⟩ <;> rcases h2 with ⟨p', rfl⟩ | ⟨p', q', rfl⟩ | ⟨p', q', r', rfl⟩ | ⟨p', q', r', rfl⟩ <;> first | rfl | exact absurd p' p | exact absurd p p' | exact absurd q' q | exact absurd q q' | exact absurd r' r | exact absurd r r'
theorem ShowAns_fun {L : List Ev} {s1 s2 : List UInt8} {i1 i2 c1 c2 : Int} (h1 : ShowAns L s1 i1 c1) (h2 : ShowAns L s2 i2 c2) : s1 = s2 ∧ i1 = i2 ∧ c1 = c2 := by
  rcases h1 with ⟨p, rfl, rfl, rfl⟩ | ⟨p, k, hk, a, b, c, rfl, rfl⟩ | ⟨p, a, rfl, rfl, rfl⟩ <;> rcases h2 with ⟨p', rfl, rfl, rfl⟩ | ⟨p', k', hk', a', b', c', rfl, rfl⟩ | ⟨p', a', rfl, rfl, rfl⟩
  · exact ⟨rfl, rfl, rfl⟩
  · omega
  · omega
  · omega
  · rcases (show k < k' ∨ k = k' ∨ k' < k by omega) with h | rfl | h
    · exact absurd (EvCode_fun b (a' k h)) c
    · exact ⟨rfl, rfl, EvCode_fun b b'⟩
    · exact absurd (EvCode_fun b' (a k' h)) c'
  · exact absurd (EvCode_fun b (a' k hk)) c
  · omega
  · exact absurd (EvCode_fun b' (a k' hk')) c'
  · exact ⟨rfl, rfl, rfl⟩
set_option maxHeartbeats 4000000 in
set_option maxRecDepth 100000 in
theorem walk_LinesShows (v0 : Value) (W : World) (hw : LnW W) (o0 : Is_sl_Event W v0) :
    Calls Tryd.prog 3 #[v0] W fun e w' => e = .returned (.bool true) ∧ Below W.heap.size W w' := by
  obtain ⟨X, r, _, hn⟩ := o0
  obtain ⟨av, cv, rfl, _⟩ := RowAt_shape r
  have RV := Lib.hid r
  have HW := Lib.hid hw
  have HN := Lib.hid hn
  clear r hw hn
  go_enter Tryd.func3, Tryd.ntmps3
  go_wp2_with fail
  refine (events_copy _ X _ RV.out HN.out).mono ?_
  rintro e w1 ⟨v1, rfl, R1, hb1⟩
  obtain ⟨a1, c1, rfl, _⟩ := RowAt_shape R1
  have RV1 := Lib.hid (RowAt_below RV.out hb1)
  have RC1 := Lib.hid R1
  have B1 := Lib.hid hb1
  clear R1 hb1
  go_wp2_with fail
  refine (prog_Show RC1.out (HW.out.below B1.out)).mono ?_
  rintro e w2 ⟨s, i, c, rfl, hA, hb2⟩
  have RV2 := Lib.hid (RowAt_below RV1.out hb2)
  have RC2 := Lib.hid (RowAt_below RC1.out hb2)
  have B2 := Lib.hid (B1.out.trans (hb2.mono B1.out.size))
  have HA := Lib.hid hA
  clear hb2 hA
  go_wp2_with fail
  refine (ref_Shown RV2.out).mono ?_
  rintro e w3 ⟨s', i', c', rfl, hA, hb3⟩
  obtain ⟨rfl, rfl, rfl⟩ := ShowAns_fun HA.out hA
  have RV3 := Lib.hid (RowAt_below RV2.out hb3)
  have RC3 := Lib.hid (RowAt_below RC2.out hb3)
  have B3 := Lib.hid (B2.out.trans (hb3.mono B2.out.size))
  clear hb3 hA
  go_wp2_with (go_at_call 8; refine (sameEvents_yes _ _ X _ RC3.out RV3.out).mono ?_; rintro e w4 ⟨rfl, hb4⟩; have B4 := (B3.out.trans (hb4.mono B3.out.size)))
  all_goals first | (go_ret; exact ⟨rfl, B4⟩) | (exfalso; first | omega | (simp at *; omega) | (simp at *; done))
end Go.Proofs.YtnebijdifemicaaDoor

/- The walk of BoundCaps. -/
import Derived.Test.YtjnfnmbkmgjdlaaCapsR
import Derived.Test.YtjnfnmbkmgjdlaaCopyloads
import Derived.Test.YtjnfnmbkmgjdlaaSameInts
import Derived.Test.YtjnfnmbkmgjdlaaSameLoads
namespace Go.Proofs.Ytjnfnmbkmgjdlaa
open Go.RowKit

theorem prog_Caps (v : Value) (L : List Ld) (num den flows : Int) (Y : List Int) (code : Int) (w : World) (hv : RowAt w 3 v (L.map Ld.cells)) (h : CapsAns L num den flows Y code) : Calls Try.prog 22 #[v, .int .i64 num, .int .i64 den, .int .i64 flows] w (CapsPost w Y code) := by
  rcases h with ⟨h, rfl, rfl⟩ | ⟨h, h2, rfl, rfl⟩ | ⟨h, h2, rfl, rfl⟩
  · exact prog_Caps_bad v L num den flows w hv h
  · exact prog_Caps_range v L num den flows w hv h h2
  · exact prog_Caps_ok v L num den flows w hv h h2
theorem ref_Caps (v : Value) (L : List Ld) (num den flows : Int) (Y : List Int) (code : Int) (w : World) (hv : RowAt w 3 v (L.map Ld.cells)) (h : CapsAns L num den flows Y code) : Calls Try.prog 23 #[v, .int .i64 num, .int .i64 den, .int .i64 flows] w (CapsPost w Y code) := by
  rcases h with ⟨h, rfl, rfl⟩ | ⟨h, h2, rfl, rfl⟩ | ⟨h, h2, rfl, rfl⟩
  · exact ref_Caps_bad v L num den flows w hv h
  · exact ref_Caps_range v L num den flows w hv h h2
  · exact ref_Caps_ok v L num den flows w hv h h2

set_option maxHeartbeats 4000000 in
set_option maxRecDepth 100000 in
theorem walk_BoundCaps (v0 v1 v2 v3 : Value) (W : World) (o0 : Is_sl_Load W v0) (o1 : Is_int W v1) (o2 : Is_int W v2) (o3 : Is_int W v3) :
    Calls Try.prog 7 #[v0, v1, v2, v3] W fun e w' => e = .returned (.bool true) ∧ Below W.heap.size W w' := by
  obtain ⟨X, r, _, hn⟩ := o0
  obtain ⟨num, rfl, _⟩ := o1
  obtain ⟨den, rfl, _⟩ := o2
  obtain ⟨flows, rfl, _⟩ := o3
  obtain ⟨Y, code, h⟩ := CapsAns_total X num den flows
  have H := Lib.hid h
  have R := Lib.hid r
  obtain ⟨a, c, rfl, _⟩ := RowAt_shape r
  clear h r
  go_enter Try.func7, Try.ntmps7
  go_wp2_with fail
  refine (loads_copy _ X _ R.out hn).mono ?_
  rintro e w1 ⟨v1, rfl, R1, hb1⟩
  obtain ⟨a1, c1, rfl, _⟩ := RowAt_shape R1
  have R1' := Lib.hid R1
  have B1 := Lib.hid hb1
  clear R1 hb1
  go_wp2_with fail
  refine (prog_Caps _ X num den flows Y code _ R1'.out H.out).mono ?_
  rintro e w2 ⟨v2, rfl, R2, hb2⟩
  obtain ⟨a2, c2, rfl, _⟩ := RowAt_shape R2.1
  have R2' := Lib.hid R2.1
  have R1b := Lib.hid (RowAt_below R1'.out hb2)
  have B2 := Lib.hid (B1.out.trans (hb2.mono B1.out.size))
  have Rb := Lib.hid (RowAt_below R.out B2.out)
  clear R2 hb2 R1'
  go_wp2_with fail
  refine (ref_Caps _ X num den flows Y code _ Rb.out H.out).mono ?_
  rintro e w3 ⟨v3, rfl, R3, hb3⟩
  obtain ⟨a3, c3, rfl, _⟩ := RowAt_shape R3.1
  have R3' := Lib.hid R3.1
  have R2b := Lib.hid (RowAt_below R2'.out hb3)
  have R1c := Lib.hid (RowAt_below R1b.out hb3)
  have B3 := Lib.hid (B2.out.trans (hb3.mono B2.out.size))
  clear R3 hb3 R1b R2' Rb
  go_wp2_with fail
  refine (sameInts_yes _ _ Y _ R2b.out R3'.out).mono ?_
  rintro e w4 ⟨rfl, hb4⟩
  have B4 := Lib.hid (B3.out.trans (hb4.mono B3.out.size))
  have R1d := Lib.hid (RowAt_below R1c.out hb4)
  have Rd := Lib.hid (RowAt_below R.out B4.out)
  clear hb4
  go_wp2_with fail
  refine (sameLoads_yes _ _ X _ R1d.out Rd.out).mono ?_
  rintro e w5 ⟨rfl, hb5⟩
  have B5 := Lib.hid (B4.out.trans (hb5.mono B4.out.size))
  clear hb5
  go_wp2
  all_goals first | (go_ret; exact ⟨rfl, B5.out⟩) | (exfalso; first | omega | (simp at *; omega) | (simp at *; done))
end Go.Proofs.Ytjnfnmbkmgjdlaa

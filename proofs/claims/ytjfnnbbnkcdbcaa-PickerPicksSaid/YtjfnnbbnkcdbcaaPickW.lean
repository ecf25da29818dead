/- The walk of PickerPicks. -/
import Derived.Test.YtjfnnbbnkcdbcaaPickR
import Derived.Test.YtjfnnbbnkcdbcaaOpenInts
import Derived.Test.YtjfnnbbnkcdbcaaCopyints
import Derived.Test.YtjfnnbbnkcdbcaaCopyloads
import Derived.Test.YtjfnnbbnkcdbcaaSameInts
import Derived.Test.YtjfnnbbnkcdbcaaSameLoads
namespace Go.Proofs.Ytjfnnbbnkcdbcaa
open Go.RowKit

set_option maxHeartbeats 4000000 in
set_option maxRecDepth 100000 in
theorem walk_PickerPicks (v0 v1 v2 v3 v4 v5 : Value) (W : World) (o0 : Is_sl_int W v0) (o1 : Is_sl_Load W v1) (o2 : Is_int W v2) (o3 : Is_int W v3) (o4 : Is_int W v4) (o5 : Is_int W v5) :
    Calls Try.prog 8 #[v0, v1, v2, v3, v4, v5] W fun e w' => e = .returned (.bool true) ∧ Below W.heap.size W w' := by
  obtain ⟨Wk, rw, _, hnw⟩ := o0
  obtain ⟨L, r, _, hn⟩ := o1
  obtain ⟨num, rfl, _⟩ := o2
  obtain ⟨den, rfl, _⟩ := o3
  obtain ⟨flows, rfl, _⟩ := o4
  obtain ⟨tries, rfl, _⟩ := o5
  obtain ⟨b, code, h⟩ := PkAns_total Wk L num den flows tries
  have H := Lib.hid h
  have R := Lib.hid r
  have RW := Lib.hid rw
  obtain ⟨a, c, rfl, _⟩ := RowAt_shape r
  obtain ⟨a', c', rfl, _⟩ := RowAt_shape (f := fun x => [Value.int .i64 x]) rw
  clear h r rw
  go_enter Try.func8, Try.ntmps8
  go_wp2_with fail
  refine (loads_copy _ L _ R.out hn).mono ?_
  rintro e w1 ⟨v1, rfl, R1, hb1⟩
  obtain ⟨a1, c1, rfl, _⟩ := RowAt_shape R1
  have R1' := Lib.hid R1
  have B1 := Lib.hid hb1
  have RW1 := Lib.hid (RowAt_below RW.out B1.out)
  clear R1 hb1
  go_wp2_with fail
  refine (ints_copy _ Wk _ RW1.out hnw).mono ?_
  rintro e w2 ⟨v2, rfl, R2, hb2⟩
  obtain ⟨a2, c2, rfl, _⟩ := RowAt_shape (f := fun x => [Value.int .i64 x]) R2
  have R2' := Lib.hid R2
  have R1b := Lib.hid (RowAt_below R1'.out hb2)
  have B2 := Lib.hid (B1.out.trans (hb2.mono B1.out.size))
  clear R2 hb2 R1' RW1
  go_wp2_with fail
  refine (prog_Pick _ _ Wk L num den flows tries b code _ R2'.out R1b.out H.out).mono ?_
  rintro e w3 ⟨rfl, hb3⟩
  have R2b := Lib.hid (RowAt_below R2'.out hb3)
  have R1c := Lib.hid (RowAt_below R1b.out hb3)
  have B3 := Lib.hid (B2.out.trans (hb3.mono B2.out.size))
  have Rc := Lib.hid (RowAt_below R.out B3.out)
  have RWc := Lib.hid (RowAt_below RW.out B3.out)
  clear hb3 R1b R2'
  go_wp2_with fail
  refine (ref_Pick _ _ Wk L num den flows tries b code _ RWc.out Rc.out H.out).mono ?_
  rintro e w4 ⟨rfl, hb4⟩
  have R2d := Lib.hid (RowAt_below R2b.out hb4)
  have R1d := Lib.hid (RowAt_below R1c.out hb4)
  have B4 := Lib.hid (B3.out.trans (hb4.mono B3.out.size))
  have Rd := Lib.hid (RowAt_below R.out B4.out)
  have RWd := Lib.hid (RowAt_below RW.out B4.out)
  clear hb4 R1c R2b
  go_wp2_with fail
  refine (sameLoads_yes _ _ L _ R1d.out Rd.out).mono ?_
  rintro e w5 ⟨rfl, hb5⟩
  have R2e := Lib.hid (RowAt_below R2d.out hb5)
  have B5 := Lib.hid (B4.out.trans (hb5.mono B4.out.size))
  have RWe := Lib.hid (RowAt_below RW.out B5.out)
  clear hb5
  go_wp2_with fail
  refine (sameInts_yes _ _ Wk _ R2e.out RWe.out).mono ?_
  rintro e w6 ⟨rfl, hb6⟩
  have B6 := Lib.hid (B5.out.trans (hb6.mono B5.out.size))
  clear hb6
  go_wp2
  all_goals first | (go_ret; exact ⟨rfl, B6.out⟩) | (exfalso; first | omega | (simp at *; omega) | (simp at *; done))
end Go.Proofs.Ytjfnnbbnkcdbcaa

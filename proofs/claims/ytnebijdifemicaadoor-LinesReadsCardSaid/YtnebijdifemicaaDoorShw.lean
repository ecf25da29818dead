/- lines.Show walked. -/
import Derived.Test.YtnebijdifemicaaDoorLnR
import Derived.Test.YtnebijdifemicaaDoorSetRow
import Derived.Deep.MidRow
namespace Go.Proofs.YtnebijdifemicaaDoor
open Go.RowKit
/-- What Show answers (P14.2). -/
def ShowAns (L : List Ev) (s : List UInt8) (i c : Int) : Prop := (4000 < L.length ∧ s = [] ∧ i = 0 ∧ c = 1) ∨ (L.length ≤ 4000 ∧ ∃ k : Nat, k < L.length ∧ (∀ j, j < k → EvCode (L.getD j Ev.zero) 0) ∧ EvCode (L.getD k Ev.zero) c ∧ c ≠ 0 ∧ s = [] ∧ i = k) ∨
  (L.length ≤ 4000 ∧ (∀ j, j < L.length → EvCode (L.getD j Ev.zero) 0) ∧ s = L.flatMap lineB ∧ i = 0 ∧ c = 0)
def ShwPost (L : List Ev) (w : World) (e : Ending) (w' : World) : Prop := ∃ s i c, e = .returned (.tuple #[.string ⟨s.toArray⟩, .int .i64 i, .int .i64 c]) ∧ ShowAns L s i c ∧ Below w.heap.size w w'
theorem name_w {Q : World → Prop} (w : World) (h : ∀ w', w' = w → Q w') : Q w := h w rfl
theorem isb_below {B b : Nat} {bs : List Value} {w w' : World} (h : Lib.IsBuilder 35 5 B b bs w) (hb : Below w.heap.size w w') : Lib.IsBuilder 35 5 B b bs w' := h.elim (fun x => Or.inl (bld_below x hb)) (fun x => Or.inr (bld_below x hb))
theorem isb_lt {B b : Nat} {bs : List Value} {w : World} (h : Lib.IsBuilder 35 5 B b bs w) : b < w.heap.size := h.elim (fun x => x.lt) (fun x => x.lt)
theorem range_ev {w : World} {L : List Ev} {b o i : Nat} (q : ∀ i j, i < L.length → j < 8 → w.cell? ⟨b, o + i * 8 + j, none⟩ = (Ev.cells (L.getD i Ev.zero))[j]?) (hi : i < L.length) : w.rangeAt b (o + i * 8) (Ev.cells (L.getD i Ev.zero)) := fun j v hj => by
  have h8 : j < 8 := by
    rcases Nat.lt_or_ge j 8 with g | g
    · exact g
    · rw [List.getElem?_eq_none (show (Ev.cells (L.getD i Ev.zero)).length ≤ j from g)] at hj; cases hj
  rw [q i j hi h8]; exact hj
theorem line_len {e : Ev} (he : EvCode e 0) : (lineB e).length ≤ 100 := by
  have h1 := word_len e.kind.toNat
  have h2 := sps_len (evNs_in he)
  have h3 := evNs_len e
  have h4 : (goodB e).length ≤ 5 := by
    unfold goodB
    split
    · split <;> simp
    · simp
  unfold lineB
  simp only [List.length_append, List.length_singleton]
  omega
theorem lines_len {L : List Ev} : ∀ {k : Nat}, k ≤ L.length → (∀ j, j < k → EvCode (L.getD j Ev.zero) 0) → ((L.take k).flatMap lineB).length ≤ 100 * k
  | 0, _, _ => by simp
  | k + 1, hk, h => by
    rw [List.take_succ_eq_append_getElem (by omega), List.flatMap_append, List.length_append]
    have h1 := lines_len (L := L) (k := k) (by omega) (fun j hj => h j (by omega))
    have h2 := line_len (h k (by omega))
    rw [getD_eq (by omega)] at h2
    simp only [List.flatMap_cons, List.flatMap_nil, List.append_nil]
    omega
set_option maxHeartbeats 8000000 in
set_option maxRecDepth 100000 in
theorem prog_Show {L : List Ev} {a : Option Addr} {cp : Nat} {w : World} (r : RowAt w 8 (.slice a L.length cp) (L.map Ev.cells)) (hw : LnW w) : Calls Tryd.prog 6 #[.slice a L.length cp] w (ShwPost L w) := by
  have HR := Lib.hid r
  have HW := Lib.hid hw
  have HF := Lib.hid (Lib.fresh_isBuilder 35 5 w)
  clear r hw
  by_cases h4 : L.length ≤ 4000
  · have g4 : ¬ (L.length : Int) > 4000 := by omega
    have g4' : ¬ (4000 : Int) < (L.length : Int) := by omega
    go_enter Tryd.func6, Tryd.ntmps6
    go_wp2
    go_loopw [14] (fun i wr => ∃ k : Nat, k ≤ L.length ∧ i = .int .i64 k ∧ (∀ j, j < k → EvCode (L.getD j Ev.zero) 0) ∧ Lib.IsBuilder 35 5 w.heap.size w.heap.size (Lib.byteCells ((L.take k).flatMap lineB)) wr ∧ Below w.heap.size w wr) (fun i _ => L.length - (intOf i).toNat)
    case atStart => exact ⟨0, Nat.zero_le _, rfl, fun j hj => absurd hj (Nat.not_lt_zero j), HF.out, (Below.refl _ _).alloc (Nat.le_refl _) _⟩
    case round =>
      obtain ⟨k, hk, rfl, hok, hB, hbr⟩ := hrel
      have HB := Lib.hid hB
      have HBr := Lib.hid hbr
      have HOk := Lib.hid hok
      have hlb := isb_lt hB
      have hll := lines_len hk hok
      rcases (show k < L.length ∨ k = L.length by omega) with hlt | rfl
      · have hlt' : (k : Int) < (L.length : Int) := by omega
        have k0 : (0 : Int) ≤ (k : Int) := by omega
        obtain ⟨_, _, e1, _, _, _, q1⟩ := RowAt_fn Ev.zero (RowAt_below HR.out hbr)
        injection e1 with e1 _ e3
        obtain ⟨b, o, e4, hb, q⟩ := q1 (by intro e; rw [e] at hlt; simp at hlt)
        rw [← e1] at e4
        subst e4
        have hr := range_ev q hlt
        obtain ⟨c, hc⟩ := EvCode_total (L.getD k Ev.zero)
        have htk : (L.take (k + 1)).flatMap lineB = (L.take k).flatMap lineB ++ lineB (L.getD k Ev.zero) := by
          rw [List.take_succ_eq_append_getElem hlt, List.flatMap_append, getD_eq hlt]; simp
        obtain ⟨x, hx⟩ : ∃ x, x = L.getD k Ev.zero := ⟨_, rfl⟩
        rw [← hx] at hr hc htk
        obtain ⟨EL, hEL⟩ : ∃ EL, EL = Ev.cells x := ⟨_, rfl⟩
        rw [← hEL] at hr
        have HEL := Lib.hid hEL
        have HEI := Lib.hid (show (Tryd.prog.info? 37).map (·.size) = some EL.length by rw [hEL]; show _ = some 8; kernel_rfl)
        have HEJ := Lib.hid (show (Tryd.prog.info? 37).map (·.size) = some EL.toArray.size by rw [hEL]; show _ = some 8; kernel_rfl)
        have HEZ := Lib.hid (show EL.toArray.size = 8 by rw [hEL]; rfl)
        have HE1 := Lib.hid (show EL.toArray.all (·.oneCell') = true by rw [hEL]; simp [Ev.cells, Value.oneCell'])
        have HC := Lib.hid hc
        have HX := Lib.hid hx
        have HRg := Lib.hid hr
        have HTk := Lib.hid htk
        clear hx hr hc htk hEL q q1 e1 e3 hB hbr hok
        go_wp2_with (first | (refine wpList_load_mid rfl 37 (.tmp 17) rfl b (o + k * 8) rfl EL _ HRg.out Tryd.underlying37 rfl HEI.out ?_) | (refine wpList_store_row rfl 37 (.tmp 7) (.tmp 18) rfl wr.heap.size EL.toArray rfl rfl 37 _ (heap_at _ rfl) HEJ.out (by rw [HEZ.out]; rfl) HE1.out ?_; refine name_w _ (fun w2 hw2 => ?_); have k2 : w2.heap[wr.heap.size]? = some (.cells EL.toArray 37 (0, 0)) := (by rw [hw2]; exact setRow_block (heap_at _ rfl)); have b2 : Below wr.heap.size wr w2 := (by rw [hw2]; exact setRow_below ((Below.refl _ _).alloc (Nat.le_refl _) _) (Nat.le_refl _)); have K2 := Lib.hid k2; have B2 := Lib.hid b2; clear hw2 k2 b2) | (refine wpList_load_row rfl 37 (.tmp 7) rfl wr.heap.size rfl 37 EL.toArray (0, 0) _ K2.out Tryd.underlying37 rfl HEJ.out ?_))
        rw [HEL.out]
        refine (prog_WCheck x.kind x.key x.slot x.gen x.good x.request x.backend x.weight c _ HC.out).mono ?_
        rw [← HEL.out]
        rintro e3 w3 ⟨rfl, hb3⟩
        have B3 := Lib.hid (B2.out.trans (hb3.mono B2.out.size))
        have K3 := Lib.hid (blk_below hb3 K2.out (lt_of_block K2.out))
        clear hb3
        by_cases hc0 : c = 0
        · subst hc0
          go_wp2_with (refine wpList_load_row rfl 37 (.tmp 7) rfl wr.heap.size rfl 37 EL.toArray (0, 0) _ K3.out Tryd.underlying37 rfl HEJ.out ?_)
          rw [HEL.out]
          refine (prog_line HC.out (HW.out.below (HBr.out.trans (B3.out.mono HBr.out.size)))).mono ?_
          rw [← HEL.out]
          rintro e4 w4 ⟨rfl, hb4⟩
          have B4 := Lib.hid (B3.out.trans (hb4.mono B3.out.size))
          clear hb4
          go_wp2_with fail
          refine (prog_bStr (isb_below HB.out B4.out) ⟨(lineB x).toArray⟩ (by rw [Lib.byteCells_length]; have h1 := line_len HC.out; show _ + (lineB x).toArray.size ≤ _; rw [List.size_toArray]; omega) (by have := B4.out.size; omega)).mono ?_
          rintro e5 w5 ⟨rfl, hB5, hb5, _⟩
          rw [Lib.strCells_eq, bytes_app] at hB5
          have H5 := Lib.hid (And.intro hB5 ((HBr.out.trans (B4.out.mono HBr.out.size)).trans hb5))
          clear hB5 hb5
          go_wp2
          go_roundw
          case rel =>
            refine ⟨k + 1, by omega, by go_num, fun j hj => ?_, by rw [HTk.out]; exact Or.inr H5.out.1, H5.out.2⟩
            rcases (show j < k ∨ j = k by omega) with g | rfl
            · exact HOk.out j g
            · rw [← HX.out]; exact HC.out
          case measure => simp [intOf]; omega
        · have d0 : (c != 0) = true := by simpa using hc0
          go_wp2
          refine bodyPost_ret (v := .tuple #[.string ⟨(([] : List UInt8)).toArray⟩, .int .i64 (k : Int), .int .i64 c]) ?_ rfl ?_
          · simp [results, Tryd.results6, go_sem]
          · exact ⟨[], (k : Int), c, rfl, Or.inr (Or.inl ⟨h4, k, hlt, HOk.out, by rw [← HX.out]; exact HC.out, hc0, rfl, rfl⟩), HBr.out.trans (B3.out.mono HBr.out.size)⟩
      · have hge : ¬ (L.length : Int) < (L.length : Int) := by omega
        have hall : (L.take L.length) = L := List.take_length
        rw [hall] at hB
        clear hall hll
        go_wp2_with fail
        refine (Builder_String_any_k _ _ _ _ (Lib.IsBuilderF.of hB) (by omega)).mono ?_
        rintro e7 w7 ⟨rfl, _, hb7, _⟩
        have H7 := Lib.hid (HBr.out.trans hb7)
        clear hb7
        go_wp2
        refine bodyPost_ret (v := .tuple #[.string ⟨((L.flatMap lineB : List UInt8)).toArray⟩, .int .i64 0, .int .i64 0]) ?_ rfl ?_
        · simp [results, Tryd.results6, go_sem]
        · exact ⟨_, 0, 0, rfl, Or.inr (Or.inr ⟨h4, HOk.out, rfl, rfl, rfl⟩), H7.out⟩
  · have g4 : (4000 : Int) < (L.length : Int) := by omega
    have g4' : (L.length : Int) > 4000 := by omega
    go_enter Tryd.func6, Tryd.ntmps6
    go_wp2
    refine bodyPost_ret (v := .tuple #[.string ⟨(([] : List UInt8)).toArray⟩, .int .i64 0, .int .i64 1]) ?_ rfl ?_
    · simp [results, Tryd.results6, go_sem]
    · exact ⟨[], 0, 1, rfl, Or.inl ⟨by omega, rfl, rfl, rfl⟩, Below.refl _ _⟩
end Go.Proofs.YtnebijdifemicaaDoor

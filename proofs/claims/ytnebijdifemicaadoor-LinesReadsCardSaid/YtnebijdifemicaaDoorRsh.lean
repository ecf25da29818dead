/- usherref.EventsShown: its contract. -/
import Derived.Test.YtnebijdifemicaaDoorRln
import Derived.Test.YtnebijdifemicaaDoorShw
import Derived.Lib.BufferRead
namespace Go.Proofs.YtnebijdifemicaaDoor
open Go.RowKit
theorem conv_own {w : World} {base : Nat} {v : Value} {l : List UInt8} (h : w.ownsRow base 5 1 v l.length (Lib.byteCells l)) : (convert 33 9 v).run Tryd.prog w = .ok (.string ⟨l.toArray⟩) w := by
  rcases h.2 with ⟨hv, h0⟩ | ⟨g, cap, cur, hv, _⟩
  · rw [hv, List.eq_nil_of_length_eq_zero h0]
    exact Lib.run_convert_nil_bytes w 33 9 5 0 Tryd.underlying33 Tryd.underlying5 Tryd.underlying9
  · subst hv
    exact run_convert_bytes_back (P := Tryd.prog) w 33 9 5 ⟨g, 0, none⟩ cap l Tryd.underlying33 Tryd.underlying5 Tryd.underlying9 (fun j hj => h.cells (g := g) rfl j _ (by simp [Lib.byteCells, hj]))
set_option maxHeartbeats 8000000 in
set_option maxRecDepth 100000 in
theorem ref_Shown {L : List Ev} {a : Option Addr} {cp : Nat} {w : World} (r : RowAt w 8 (.slice a L.length cp) (L.map Ev.cells)) : Calls Tryd.prog 7 #[.slice a L.length cp] w (ShwPost L w) := by
  have HR := Lib.hid r
  obtain ⟨i0, ji, ji0, ji1, ji2⟩ := info_parts info_u8
  clear r
  by_cases h4 : L.length ≤ 4000
  · have g4 : ¬ (L.length : Int) > 4000 := by omega
    have g4' : ¬ (4000 : Int) < (L.length : Int) := by omega
    go_enter Tryd.func7, Tryd.ntmps7
    go_wp2
    go_loopw [5, 6] (fun b i wr => ∃ (k : Nat) (ab : Option Addr) (cb : Nat), k ≤ L.length ∧ b = .slice ab ((L.take k).flatMap lineB).length cb ∧ i = .int .i64 k ∧ (∀ j, j < k → EvCode (L.getD j Ev.zero) 0) ∧ wr.ownsRow w.heap.size 5 1 (.slice ab ((L.take k).flatMap lineB).length cb) ((L.take k).flatMap lineB).length (Lib.byteCells ((L.take k).flatMap lineB)) ∧ Below w.heap.size w wr) (fun _ i _ => L.length - (intOf i).toNat)
    case atStart => exact ⟨0, none, 0, Nat.zero_le _, rfl, rfl, fun j hj => absurd hj (Nat.not_lt_zero j), World.ownsRow_nil _ _ _ _, Below.refl _ _⟩
    case round =>
      obtain ⟨k, ab, cb, hk, rfl, rfl, hok, hown, hbr⟩ := hrel
      have hll := lines_len hk hok
      have HBr := Lib.hid hbr
      have HOk := Lib.hid hok
      rcases (show k < L.length ∨ k = L.length by omega) with hlt | rfl
      · have hlt' : (k : Int) < (L.length : Int) := by omega
        have k0 : (0 : Int) ≤ (k : Int) := by omega
        obtain ⟨_, _, e1, _, _, _, q1⟩ := RowAt_fn Ev.zero (RowAt_below HR.out hbr)
        injection e1 with e1 _ e3
        obtain ⟨b, o, e4, hb, q⟩ := q1 (by intro e; rw [e] at hlt; simp at hlt)
        rw [← e1] at e4
        subst e4
        have hr := range_ev q hlt
        obtain ⟨c, hc⟩ := EvCode_total (L.getD k Ev.zero)
        have htk : (L.take (k + 1)).flatMap lineB = (L.take k).flatMap lineB ++ lineB (L.getD k Ev.zero) := by
          rw [List.take_succ_eq_append_getElem hlt, List.flatMap_append, getD_eq hlt]; simp
        obtain ⟨B, hB⟩ : ∃ B, B = (L.take k).flatMap lineB := ⟨_, rfl⟩
        rw [← hB] at hown hll htk ⊢
        obtain ⟨x, hx⟩ : ∃ x, x = L.getD k Ev.zero := ⟨_, rfl⟩
        rw [← hx] at hr hc htk
        obtain ⟨EL, hEL⟩ : ∃ EL, EL = Ev.cells x := ⟨_, rfl⟩
        rw [← hEL] at hr
        have HEL := Lib.hid hEL
        have HEI := Lib.hid (show (Tryd.prog.info? 37).map (·.size) = some EL.length by rw [hEL]; show _ = some 8; kernel_rfl)
        have HC := Lib.hid hc
        have HX := Lib.hid hx
        have HRg := Lib.hid hr
        have HTk := Lib.hid htk
        have HOw := Lib.hid hown
        clear hx hr hc htk hEL q q1 e1 e3 hbr hok hown hB
        go_wp2_with (refine wpList_load_mid rfl 37 (.tmp 19) rfl b (o + k * 8) rfl EL _ HRg.out Tryd.underlying37 rfl HEI.out ?_)
        rw [HEL.out]
        refine (ref_EventFault x.kind x.key x.slot x.gen x.good x.request x.backend x.weight c _ HC.out).mono ?_
        rw [← HEL.out]
        rintro e3 w3 ⟨rfl, hb3⟩
        have hrg3 : w3.rangeAt b (o + k * 8) EL := fun j v hj => (hb3.cell (p := ⟨b, o + k * 8 + j, none⟩) hb).trans (HRg.out j v hj)
        have HB3 := Lib.hid (HBr.out.trans (hb3.mono HBr.out.size))
        have HRg3 := Lib.hid hrg3
        have HOw3 := Lib.hid (own_keep HOw.out hb3)
        clear hb3 hrg3
        by_cases hc0 : c = 0
        · subst hc0
          go_wp2_with (refine wpList_load_mid rfl 37 (.tmp 29) rfl b (o + k * 8) rfl EL _ HRg3.out Tryd.underlying37 rfl HEI.out ?_)
          rw [HEL.out]
          refine (ref_EventLine HC.out _).mono ?_
          rw [← HEL.out]
          rintro e4 w4 ⟨⟨l, hl, rfl⟩, hb4⟩
          have hlx := line_len HC.out
          rw [hl, List.length_append, List.length_singleton] at hlx
          have HB4 := Lib.hid (HB3.out.trans (hb4.mono HB3.out.size))
          have HOw4 := Lib.hid (own_keep HOw3.out hb4)
          have s4 := HB4.out.size
          have HL := Lib.hid hl
          clear hb4 hl
          go_wp2_with (at_builtin; refine Lib.wpList_append_own_string _ rfl _ _ 33 9 rfl w.heap.size 5 i0 Tryd.underlying33 Tryd.underlying9 ji ji0 ji1 ji2 _ _ _ rfl HOw4.out ⟨l.toArray⟩ rfl ?c3 ?c4 ?c5 ?_)
          case c3 => unfold maxLen; show _ + l.toArray.size ≤ _; rw [List.size_toArray]; omega
          case c4 => show _ + l.toArray.size ≤ _; rw [List.size_toArray]; omega
          case c5 => exact s4
          intro v5 w5 hown5 hgrow5 _
          rw [Lib.strCells_eq, bytes_app] at hown5
          obtain ⟨Bl, hBl⟩ : ∃ Bl, Bl = B ++ l := ⟨_, rfl⟩
          have hbl5 : Bl.length = B.length + l.length := by rw [hBl]; simp
          have hown5 : w5.ownsRow w.heap.size 5 1 v5 Bl.length (Lib.byteCells Bl) := by rw [hbl5, hBl]; exact hown5
          have hb5 := HB4.out.trans (grown_below (Below.refl _ _) s4 HOw4.out hgrow5)
          obtain ⟨a5, c5, rfl, _, _⟩ := owns_shape hown5
          have HOw5 := Lib.hid hown5
          have HB5 := Lib.hid hb5
          have s5 := hb5.size
          have HBL5 := Lib.hid hbl5
          have HBe := Lib.hid hBl
          clear hown5 hgrow5 hb5 hbl5 hBl
          go_wp2_with (at_builtin; refine wpList_append_own _ rfl _ _ 33 rfl w.heap.size 5 i0 (.int .u8 0) 1 1 Tryd.underlying33 ji ji0 ji1 ji2 rfl (by decide) _ _ _ rfl (HOw5.out.alloc _) ⟨w5.heap.size, 0, none⟩ 1 1 [.int .u8 10] rfl rfl (news_one [.int .u8 10] 5) ?c2 ?c3 ?c4 ?c5 ?_)
          case c2 => first | rfl | (intro u hu; simp at hu; subst hu; rfl)
          case c3 => have := HBL5.out; unfold maxLen; omega
          case c4 => have := HBL5.out; omega
          case c5 => first | omega | (simp; omega)
          intro v6 w6 hown6 hgrow6 _
          rw [show [Value.int .u8 10] = Lib.byteCells [10] from rfl, bytes_app] at hown6
          have hb6 := HB5.out.trans (grown_below ((Below.refl _ _).alloc (Nat.le_refl _) _) s5 HOw5.out hgrow6)
          obtain ⟨a6, c6, rfl, _, _⟩ := owns_shape hown6
          have hfin : (L.take (k + 1)).flatMap lineB = Bl ++ [10] := by rw [HTk.out, HL.out, HBe.out]; simp
          have hfl : (Bl ++ [10]).length = Bl.length + 1 := by simp
          have HFin := Lib.hid hfin
          have HFl := Lib.hid hfl
          have HOw6 := Lib.hid hown6
          have HB6 := Lib.hid hb6
          clear hown6 hgrow6 hb6 hfin hfl
          go_wp2
          go_roundw
          case rel =>
            refine ⟨k + 1, a6, c6, by omega, by rw [HFin.out, HFl.out], by go_num, fun j hj => ?_, by rw [HFin.out, HFl.out]; exact HOw6.out, HB6.out⟩
            rcases (show j < k ∨ j = k by omega) with g | rfl
            · exact HOk.out j g
            · rw [← HX.out]; exact HC.out
          case measure => simp [intOf]; omega
        · have d0 : (c != 0) = true := by simpa using hc0
          go_wp2
          refine bodyPost_ret (v := .tuple #[.string ⟨(([] : List UInt8)).toArray⟩, .int .i64 (k : Int), .int .i64 c]) ?_ rfl ?_
          · simp [results, Tryd.results7, go_sem]
          · exact ⟨[], (k : Int), c, rfl, Or.inr (Or.inl ⟨h4, k, hlt, HOk.out, by rw [← HX.out]; exact HC.out, hc0, rfl, rfl⟩), HB3.out⟩
      · have hge : ¬ (L.length : Int) < (L.length : Int) := by omega
        have hall : (L.take L.length) = L := List.take_length
        rw [hall] at hown ⊢
        have hcv := conv_own hown
        obtain ⟨bl, hbl⟩ : ∃ bl, bl = L.flatMap lineB := ⟨_, rfl⟩
        rw [← hbl] at hcv ⊢
        have HBl := Lib.hid hbl
        clear hall hll hbl hown hbr hok
        go_wp2
        refine bodyPost_ret (v := .tuple #[.string ⟨bl.toArray⟩, .int .i64 0, .int .i64 0]) ?_ rfl ?_
        · simp [results, Tryd.results7, go_sem]
        · exact ⟨_, 0, 0, rfl, Or.inr (Or.inr ⟨h4, HOk.out, HBl.out, rfl, rfl⟩), HBr.out⟩
  · have g4 : (4000 : Int) < (L.length : Int) := by omega
    have g4' : (L.length : Int) > 4000 := by omega
    go_enter Tryd.func7, Tryd.ntmps7
    go_wp2
    refine bodyPost_ret (v := .tuple #[.string ⟨(([] : List UInt8)).toArray⟩, .int .i64 0, .int .i64 1]) ?_ rfl ?_
    · simp [results, Tryd.results7, go_sem]
    · exact ⟨[], 0, 1, rfl, Or.inl ⟨by omega, rfl, rfl, rfl⟩, Below.refl _ _⟩
end Go.Proofs.YtnebijdifemicaaDoor

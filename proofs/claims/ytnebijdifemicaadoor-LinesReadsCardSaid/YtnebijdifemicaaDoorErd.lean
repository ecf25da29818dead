/- usherref.EventsRead: its contract. -/
import Derived.Test.YtnebijdifemicaaDoorLev
import Derived.Test.YtnebijdifemicaaDoorCopyevents
namespace Go.Proofs.YtnebijdifemicaaDoor
open Go.RowKit
/-- How Read ends. -/
def RdPost (t : List UInt8) (w : World) (e : Ending) (w' : World) : Prop := ∃ r i c v, e = .returned (.tuple #[v, .int .i64 i, .int .i64 c]) ∧ ReadAns t r i c ∧ RowAt w' 8 v (r.map Ev.cells) ∧ Below w.heap.size w w'
theorem row_nil8 (w : World) : RowAt w 8 (.slice none 0 0) (([] : List Ev).map Ev.cells) := ⟨none, 0, rfl, Nat.le_refl _, Nat.zero_le _, fun _ => rfl, fun h => absurd rfl h⟩
/-- How far a text is read: the line that is being looked at begins at f, k is looked at; L was read. -/
def RdInv (t : List UInt8) (f k : Nat) (L : List Ev) : Prop := f ≤ k ∧ k ≤ t.length + 1 ∧ L.length ≤ 4000 ∧ (∀ r i c, RdAns (lns (t.drop f)) L r i c → RdAns (lns t) [] r i c) ∧ (∀ j, f ≤ j → j < k → j < t.length → t.getD j 0 ≠ 10) ∧ (k = t.length + 1 → t.length ≤ f)
theorem RdInv.start (t : List UInt8) : RdInv t 0 0 [] := ⟨Nat.le_refl _, Nat.zero_le _, by decide, fun _ _ _ h => h, fun _ _ h => absurd h (Nat.not_lt_zero _), fun h => by omega⟩
theorem RdInv.go {t : List UInt8} {f k : Nat} {L : List Ev} (h : RdInv t f k L) (hk : k < t.length) (hc : t.getD k 0 ≠ 10) : RdInv t f (k + 1) L := by
  obtain ⟨h1, h2, h3, h4, h5, h6⟩ := h
  refine ⟨by omega, by omega, h3, h4, fun j g1 g2 g3 => ?_, fun h => by omega⟩
  rcases (show j < k ∨ j = k by omega) with g | rfl
  · exact h5 j g1 g g3
  · exact hc
theorem RdInv.end_ {t : List UInt8} {f : Nat} {L : List Ev} (h : RdInv t f t.length L) (hf : f = t.length) : RdInv t f (t.length + 1) L := by
  obtain ⟨h1, h2, h3, h4, h5, h6⟩ := h
  exact ⟨by omega, by omega, h3, h4, fun j g1 g2 g3 => by omega, fun _ => by omega⟩
theorem RdInv.piece {t : List UInt8} {f k : Nat} {L : List Ev} (h : RdInv t f k L) : ∀ b ∈ (t.take k).drop f, b ≠ 10 := by
  obtain ⟨h1, h2, h3, h4, h5, h6⟩ := h
  intro b hb
  obtain ⟨i, hi⟩ := List.getElem?_of_mem hb
  rw [List.getElem?_drop, List.getElem?_take] at hi
  split at hi
  · rename_i g
    obtain ⟨hlt, _⟩ := List.getElem?_eq_some_iff.1 hi
    have := h5 (f + i) (by omega) g hlt
    rw [List.getD, hi] at this
    exact this
  · cases hi
theorem RdInv.line {t : List UInt8} {f k : Nat} {L : List Ev} (h : RdInv t f k L) (hk : k < t.length) (hc : t.getD k 0 = 10) : lns (t.drop f) = ((t.take k).drop f ++ [10]) :: lns (t.drop (k + 1)) := by
  have hp := h.piece
  have e : t.drop f = (t.take k).drop f ++ 10 :: t.drop (k + 1) := by
    have e1 : t = t.take k ++ 10 :: t.drop (k + 1) := by
      have := split_at hk (c := 10) hc.symm
      rw [List.append_assoc] at this
      exact this
    have := h.1
    conv => lhs; rw [e1]
    rw [List.drop_append_of_le_length (by rw [List.length_take]; omega)]
  rw [e, lns_cons _ hp]
theorem RdInv.last {t : List UInt8} {f : Nat} {L : List Ev} (h : RdInv t f t.length L) (hf : f ≠ t.length) : lns (t.drop f) = [(t.take t.length).drop f] ∧ ∀ e : Ev, lineB e ≠ (t.take t.length).drop f := by
  have hp := h.piece
  have h1 := h.1
  rw [List.take_length] at hp ⊢
  refine ⟨lns_none hp (fun e => ?_), fun e he => ?_⟩
  · have := congrArg List.length e
    rw [List.length_drop, List.length_nil] at this
    omega
  · refine hp 10 ?_ rfl
    rw [← he, line_body]
    exact List.mem_append_right _ (List.mem_singleton.2 rfl)
theorem RdInv.full {t : List UInt8} {f k : Nat} {L : List Ev} (h : RdInv t f k L) {x : List UInt8} {xs : List (List UInt8)} (hl : lns (t.drop f) = x :: xs) (h4 : L.length = 4000) : RdAns (lns t) [] [] 4000 9 :=
  h.2.2.2.1 _ _ _ (by rw [hl]; exact Or.inl ⟨h4, rfl, rfl, rfl⟩)
theorem RdInv.bad {t : List UInt8} {f k : Nat} {L : List Ev} (h : RdInv t f k L) {x : List UInt8} {xs : List (List UInt8)} (hl : lns (t.drop f) = x :: xs) (h4 : L.length ≠ 4000) (hx : ∀ e, EvCode e 0 → lineB e ≠ x) : RdAns (lns t) [] [] L.length 3 :=
  h.2.2.2.1 _ _ _ (by rw [hl]; exact Or.inr (Or.inl ⟨by have := h.2.2.1; omega, hx, rfl, rfl, rfl⟩))
theorem RdInv.good {t : List UInt8} {f k : Nat} {L : List Ev} {e : Ev} (h : RdInv t f k L) {x : List UInt8} (hk : k < t.length) (hl : lns (t.drop f) = x :: lns (t.drop (k + 1))) (h4 : L.length ≠ 4000) (he : EvCode e 0) (hx : lineB e = x) : RdInv t (k + 1) (k + 1) (L ++ [e]) := by
  have h3 := h.2.2.1
  refine ⟨Nat.le_refl _, by omega, by rw [List.length_append, List.length_singleton]; omega, fun r i c hr => h.2.2.2.1 r i c ?_, fun j g1 g2 _ => by omega, fun _ => by omega⟩
  rw [hl]
  exact Or.inr (Or.inr ⟨by omega, e, he, hx, hr⟩)
theorem RdInv.fin {t : List UInt8} {f : Nat} {L : List Ev} (h : RdInv t f (t.length + 1) L) : RdAns (lns t) [] L 0 0 := by
  refine h.2.2.2.1 _ _ _ ?_
  have : t.drop f = [] := List.drop_of_length_le (h.2.2.2.2.2 rfl)
  rw [this]
  exact ⟨rfl, rfl, rfl⟩
set_option maxHeartbeats 8000000 in
set_option maxRecDepth 100000 in
theorem ref_EventsRead (t : List UInt8) (w : World) : Calls Tryd.prog 10 #[.string ⟨t.toArray⟩] w (RdPost t w) := by
  obtain ⟨i0, hi, hz0, hz1, hz2⟩ := info_parts info_events
  by_cases hbig : 200000 < t.length
  · have hb' : (200000 : Int) < (t.length : Int) := by omega
    go_enter Tryd.func10, Tryd.ntmps10
    go_wp2
    refine bodyPost_ret (v := .tuple #[.slice none 0 0, .int .i64 0, .int .i64 1]) ?_ rfl ?_
    · simp [results, Tryd.results10, go_sem]
    · exact ⟨[], 0, 1, _, rfl, Or.inl ⟨hbig, rfl, rfl, rfl⟩, row_nil8 _, Below.refl _ _⟩
  · have hb' : ¬ (200000 : Int) < (t.length : Int) := by omega
    go_enter Tryd.func10, Tryd.ntmps10
    go_wp2
    go_loopw [5, 6, 7] (fun vs f i wr => ∃ (L : List Ev) (f' k : Nat) (a : Option Addr) (c : Nat), vs = .slice a L.length c ∧ f = .int .i64 f' ∧ i = .int .i64 k ∧ RdInv t f' k L ∧ wr.ownsRow w.heap.size 37 8 (.slice a L.length c) L.length ((L.map Ev.cells).flatten) ∧ Below w.heap.size w wr) (fun _ _ i _ => t.length + 1 - (intOf i).toNat)
    case atStart => exact ⟨[], 0, 0, none, 0, rfl, rfl, rfl, RdInv.start t, World.ownsRow_nil _ _ _ _, Below.refl _ _⟩
    case round =>
      obtain ⟨L, f', k, a, c, rfl, rfl, rfl, hI, hown, hbr⟩ := hrel
      have hfk := hI.1
      have hkl := hI.2.1
      have hl4 := hI.2.2.1
      have HI := Lib.hid hI
      have HOw := Lib.hid hown
      have HBr := Lib.hid hbr
      have hsz := hbr.size
      clear hI hown hbr
      rcases (show (k < t.length ∧ t.getD k 0 ≠ 10) ∨ (k = t.length ∧ f' = t.length) ∨ k = t.length + 1 ∨ ((k < t.length ∧ t.getD k 0 = 10) ∨ (k = t.length ∧ f' ≠ t.length)) from by
        by_cases h1 : k < t.length
        · by_cases h2 : t.getD k 0 = 10
          · exact Or.inr (Or.inr (Or.inr (Or.inl ⟨h1, h2⟩)))
          · exact Or.inl ⟨h1, h2⟩
        · by_cases h2 : k = t.length
          · by_cases h3 : f' = t.length
            · exact Or.inr (Or.inl ⟨h2, h3⟩)
            · exact Or.inr (Or.inr (Or.inr (Or.inr ⟨h2, h3⟩)))
          · exact Or.inr (Or.inr (Or.inl (by omega)))) with ⟨h1, h2⟩ | ⟨h1, h2⟩ | h1 | hline
      · have hle : (k : Int) ≤ (t.length : Int) := by omega
        have hlt' : (k : Int) < (t.length : Int) := by omega
        have HN := Lib.hid (HI.out.go h1 h2)
        obtain ⟨cc, hc⟩ : ∃ c, c = t.getD k 0 := ⟨_, rfl⟩
        have gk := run_index_str h1 hc
        obtain ⟨d, hd⟩ : ∃ d : Int, d = (cc.toNat : Int) := ⟨_, rfl⟩
        rw [← hd] at gk
        have e10 : (d != 10) = true := by
          rw [bne_iff_ne, hd]
          intro e
          exact h2 (by rw [← hc]; exact UInt8.toNat_inj.1 (by rw [show (10 : UInt8).toNat = 10 from rfl]; omega))
        clear hc hd h2
        go_wp2
        go_roundw
        case rel => exact ⟨L, f', k + 1, a, c, rfl, rfl, by go_num, HN.out, HOw.out, HBr.out⟩
        case measure => simp [intOf]; omega
      · have hle : (k : Int) ≤ (t.length : Int) := by omega
        have hlt' : ¬ (k : Int) < (t.length : Int) := by omega
        have e1 : ((k : Int) == (t.length : Int)) = true := by rw [beq_iff_eq]; omega
        have e2 : ((f' : Int) == (t.length : Int)) = true := by rw [beq_iff_eq]; omega
        have HN : Hid (RdInv t f' (k + 1) L) := by have h := HI.out; rw [h1] at h ⊢; exact h.end_ h2
        clear h1 h2
        go_wp2
        go_roundw
        case rel => exact ⟨L, f', k + 1, a, c, rfl, rfl, by go_num, HN.out, HOw.out, HBr.out⟩
        case measure => simp [intOf]; omega
      · have hgt : ¬ (k : Int) ≤ (t.length : Int) := by omega
        have HA : Hid (RdAns (lns t) [] L 0 0) := by have h := HI.out; rw [h1] at h; exact h.fin
        clear h1
        go_wp2
        refine bodyPost_ret (v := .tuple #[.slice a L.length c, .int .i64 0, .int .i64 0]) ?_ rfl ?_
        · simp [results, Tryd.results10, go_sem]
        · exact ⟨L, 0, 0, _, rfl, Or.inr ⟨by omega, HA.out⟩, RowAt_of_owns HOw.out (by simp) (len_events L), HBr.out⟩
      · obtain ⟨pc, hpc⟩ : ∃ pc, pc = (t.take k).drop f' := ⟨_, rfl⟩
        have hle : (k : Int) ≤ (t.length : Int) := by rcases hline with h | h <;> omega
        obtain ⟨X, xs, hX, hbad⟩ : ∃ X xs, lns (t.drop f') = X :: xs ∧ ((k < t.length ∧ X = pc ++ [10] ∧ xs = lns (t.drop (k + 1))) ∨ (k = t.length ∧ ∀ e : Ev, lineB e ≠ X)) := by
          rcases hline with ⟨h1, h2⟩ | ⟨h1, h2⟩
          · exact ⟨_, _, HI.out.line h1 h2, Or.inl ⟨h1, by rw [hpc], rfl⟩⟩
          · have h := HI.out
            rw [h1] at h
            obtain ⟨h3, h4⟩ := h.last h2
            exact ⟨_, _, h3, Or.inr ⟨h1, h4⟩⟩
        have ex : (⟨t.toArray⟩ : ByteArray).extract f' k = ⟨pc.toArray⟩ := by rw [ByteArray.extract_mk, hpc]; simp [List.drop_take]
        have hpl : pc.length ≤ 200000 := by rw [hpc, List.length_drop, List.length_take]; omega
        have HX := Lib.hid hX
        have HB := Lib.hid hbad
        have x1 : (0 : Int) ≤ (f' : Int) := by omega
        have x2 : (f' : Int) ≤ (k : Int) := by omega
        clear hX hbad hpc
        have hga : (((k : Int) < (t.length : Int)) ∧ (∃ d : Int, (∀ W, (Instr.index 9 (.string ⟨t.toArray⟩) (.int .i64 (k : Int))).run Tryd.prog W = .ok (.int .u8 d) W) ∧ (d != 10) = false) ∧ ((k : Int) == (t.length : Int)) = false) ∨ ((¬ (k : Int) < (t.length : Int)) ∧ ((k : Int) == (t.length : Int)) = true ∧ ((f' : Int) == (t.length : Int)) = false) := by
          rcases hline with ⟨h1, h2⟩ | ⟨h1, h2⟩
          · exact Or.inl ⟨by omega, ⟨_, run_index_str h1 h2.symm, by decide⟩, by rw [beq_eq_false_iff_ne]; omega⟩
          · exact Or.inr ⟨by omega, by rw [beq_iff_eq]; omega, by rw [beq_eq_false_iff_ne]; omega⟩
        clear hline
        by_cases h4 : L.length = 4000
        · have HA := Lib.hid (HI.out.full HX.out h4)
          have e4 : ((L.length : Int) == 4000) = true := by rw [beq_iff_eq]; omega
          clear h4
          rcases hga with ⟨g1, ⟨d, g2, g3⟩, g4⟩ | ⟨g1, g2, g3⟩
          all_goals (
            go_wp2
            refine bodyPost_ret (v := .tuple #[.slice none 0 0, .int .i64 4000, .int .i64 9]) ?_ rfl ?_
            · simp [results, Tryd.results10, go_sem]
            · exact ⟨[], 4000, 9, _, rfl, Or.inr ⟨by omega, HA.out⟩, row_nil8 _, HBr.out⟩)
        · have e4 : ((L.length : Int) == 4000) = false := by rw [beq_eq_false_iff_ne]; omega
          have H4 := Lib.hid h4
          clear h4
          rcases hga with ⟨g1, ⟨d, g2, g3⟩, g4⟩ | ⟨g1, g2, g3⟩
          · have hkL : k < t.length := by omega
            obtain ⟨hXe, hxs⟩ : X = pc ++ [10] ∧ xs = lns (t.drop (k + 1)) := by rcases HB.out with ⟨_, h, h'⟩ | ⟨h, _⟩; exact ⟨h, h'⟩; omega
            subst hXe hxs
            go_wp2_with fail
            refine (ref_lineEvent hpl _).mono ?_
            rintro e w1 ⟨⟨x, hA, rfl⟩, hb1⟩
            have HOw1 := Lib.hid (own_keep HOw.out hb1)
            have HB1 := Lib.hid (HBr.out.trans (hb1.mono hsz))
            have hsz1 := HB1.out.size
            have hLi := hA.line
            obtain ⟨x_, hx_⟩ : ∃ y, y = x := ⟨_, rfl⟩
            have HXx := Lib.hid hx_
            clear hb1 hA
            obtain ⟨z0, z1, z2, z3, z4, z5, z6, z7⟩ := x
            unfold Ev.agg
            dsimp only
            rcases hLi with ⟨hk0, hco, hln⟩ | ⟨hk0, hno⟩
            · have e0 : (z0 == 0) = false := by simpa using hk0
              have HN := Lib.hid (HI.out.good hkL HX.out H4.out hco hln)
              clear hk0 hco hln hx_
              go_wp2_with (at_builtin; refine wpList_append_own _ rfl _ _ 22 rfl w.heap.size 37 i0 (.agg #[.int .i64 0, .int .i64 0, .int .i64 0, .int .i64 0, .bool false, .int .i64 0, .int .i64 0, .int .i64 0]) 8 64 Tryd.underlying22 hi hz0 hz1 hz2 rfl (by decide) _ _ _ rfl ((HOw1.out.alloc _).alloc _) ⟨w1.heap.size + 1, 0, none⟩ 1 1 (Ev.cells ⟨z0, z1, z2, z3, z4, z5, z6, z7⟩) rfl rfl (news_lit (by simp) (Ev.cells ⟨z0, z1, z2, z3, z4, z5, z6, z7⟩) 37) ?c2 ?c3 ?c4 ?c5 ?_)
              case c2 => intro u hu; simp [Ev.cells] at hu; rcases hu with rfl | rfl | rfl | rfl | rfl | rfl | rfl | rfl <;> rfl
              case c3 => unfold maxLen; omega
              case c4 => omega
              case c5 => simp; omega
              intro v6 w6 hown6 hgrow6 _
              have hb6 := HB1.out.trans (grown_below (((Below.refl _ _).alloc (Nat.le_refl _) _).alloc (by simp) _) hsz1 HOw1.out hgrow6)
              obtain ⟨a6, c6, rfl, _, _⟩ := owns_shape hown6
              have HOw6 := Lib.hid hown6
              have HB6 := Lib.hid hb6
              clear hown6 hgrow6 hb6
              go_wp2
              go_roundw
              case rel => exact ⟨L ++ [⟨z0, z1, z2, z3, z4, z5, z6, z7⟩], k + 1, k + 1, a6, c6, by rw [List.length_append]; rfl, by go_num, by go_num, HN.out, by rw [List.length_append, List.map_append, List.flatten_append]; exact HOw6.out, HB6.out⟩
              case measure => simp [intOf]; omega
            · have e0 : (z0 == 0) = true := by simpa using hk0
              have HA := Lib.hid (HI.out.bad HX.out H4.out hno)
              clear hk0 hno hx_
              go_wp2
              refine bodyPost_ret (v := .tuple #[.slice none 0 0, .int .i64 (L.length : Int), .int .i64 3]) ?_ rfl ?_
              · simp [results, Tryd.results10, go_sem]
              · exact ⟨[], (L.length : Int), 3, _, rfl, Or.inr ⟨by omega, HA.out⟩, row_nil8 _, HB1.out.alloc hsz1 _⟩
          · have hkL : ¬ k < t.length := by omega
            have HA : Hid (RdAns (lns t) [] [] L.length 3) := by
              rcases HB.out with ⟨h, _⟩ | ⟨_, h⟩
              · omega
              · exact HI.out.bad HX.out H4.out (fun e _ => h e)
            go_wp2_with fail
            refine (ref_lineEvent hpl _).mono ?_
            rintro e w1 ⟨⟨x, hA, rfl⟩, hb1⟩
            have HOw1 := Lib.hid (own_keep HOw.out hb1)
            have HB1 := Lib.hid (HBr.out.trans (hb1.mono hsz))
            have hsz1 := HB1.out.size
            have hLi := hA.line
            obtain ⟨x_, hx_⟩ : ∃ y, y = x := ⟨_, rfl⟩
            have HXx := Lib.hid hx_
            clear hb1 hA
            obtain ⟨z0, z1, z2, z3, z4, z5, z6, z7⟩ := x
            unfold Ev.agg
            dsimp only
            clear hx_ hLi
            rcases (show (z0 == 0) = true ∨ (z0 == 0) = false from by cases z0 == 0; exact Or.inr rfl; exact Or.inl rfl) with e0 | e0
            all_goals (
              go_wp2
              refine bodyPost_ret (v := .tuple #[.slice none 0 0, .int .i64 (L.length : Int), .int .i64 3]) ?_ rfl ?_
              · simp [results, Tryd.results10, go_sem]
              · exact ⟨[], (L.length : Int), 3, _, rfl, Or.inr ⟨by omega, HA.out⟩, row_nil8 _, HB1.out.alloc hsz1 _⟩)
end Go.Proofs.YtnebijdifemicaaDoor

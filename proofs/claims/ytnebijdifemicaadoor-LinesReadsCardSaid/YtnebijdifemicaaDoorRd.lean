/- lines.Read walked. -/
import Derived.Test.YtnebijdifemicaaDoorRit
import Derived.Test.YtnebijdifemicaaDoorEvt
import Derived.Test.YtnebijdifemicaaDoorErd
import Derived.RegionIn
import Derived.Test.YtnebijdifemicaaDoorShwW
namespace Go.Proofs.YtnebijdifemicaaDoor
open Go.RowKit Go.Shelf
attribute [local go_sem] Oper.semAt_some
theorem prog_Lines (s : ByteArray) (w : World) : Calls Tryd.prog 17 #[.string s] w fun e w' => e = .returned (.func (.func 31) #[] #[.pointer (some ⟨w.heap.size, 0, none⟩)]) ∧ w' = w.alloc (.cells #[.string s] 9) := by
  go_enter Tryd.func17, Tryd.ntmps17
  go_wp2
  go_ret
  exact ⟨rfl, rfl⟩
theorem own_set_ne {w : World} {B sz n : Nat} {t : TypeId} {v : Value} {cs : List Value} {p : Addr} (h : w.ownsRow B t sz v n cs) (hp : p.block < B) (u : Value) : (w.setCell p u).ownsRow B t sz v n cs := by
  obtain ⟨h1, h2 | ⟨g, cap, cur, h3, h4, h5, h6⟩⟩ := h
  · exact ⟨h1, Or.inl h2⟩
  · exact ⟨h1, Or.inr ⟨g, cap, cur, h3, h4, (Below.heap_setCell _ _ _ _ (by omega)).trans h5, h6⟩⟩
theorem parse_line {f : Ev} (hf : EvCode f 0) : evParse (spl (trimS (lineB f))) = f := by rw [line_body, trimS_line, spl_body hf, parse_ws hf]
theorem rd_bad {x : List UInt8} {c : Int} (hc : EvCode (evParse (spl (trimS x))) c) (h : c ≠ 0 ∨ lineB (evParse (spl (trimS x))) ≠ x) : ∀ f, EvCode f 0 → lineB f ≠ x := by
  intro f hf e
  have h1 := parse_line hf
  rw [e] at h1
  rcases h with h | h
  · rw [h1] at hc; exact h (EvCode_fun hc hf)
  · rw [h1] at h; exact h e
/-- Between two lines. -/
def RdI (w : World) (b3 D : Nat) (pre : List (List UInt8)) (W : World) : Prop := ∃ (L : List Ev) (v : Value), pre = L.map lineB ∧ (∀ e ∈ L, EvCode e 0) ∧ L.length ≤ 4000 ∧ W.heap[b3]? = some (.cells #[v] 22 (0, 0)) ∧ W.ownsRow (D + 2) 37 8 v L.length ((L.map Ev.cells).flatten) ∧ Below w.heap.size w W ∧ W.heap[w.heap.size]? = some (.cells #[.slice none 0 0] 22 (0, 0)) ∧ W.heap[w.heap.size + 1]? = some (.cells #[.int .i64 0] 3 (0, 0)) ∧ W.heap[w.heap.size + 1 + 1]? = some (.cells #[.int .i64 0] 24 (0, 0))
/-- Behind a line that is none. -/
def RdX (w : World) (T : List UInt8) (pre : List (List UInt8)) (W : World) : Prop := ∃ i c, (∀ r, pre ++ r = lns T → RdAns (lns T) [] [] i c) ∧ Below w.heap.size w W ∧ W.heap[w.heap.size]? = some (.cells #[.slice none 0 0] 22 (0, 0)) ∧ W.heap[w.heap.size + 1]? = some (.cells #[.int .i64 i] 3 (0, 0)) ∧ W.heap[w.heap.size + 1 + 1]? = some (.cells #[.int .i64 c] 24 (0, 0))
theorem heap_put {W : World} {D b : Nat} {o o' : Obj} {x : Obj} (hK : W.heap[D]? = some o) (ho : o.isCells = false) (h : W.heap[b]? = some x) (hx : x.isCells = true) : (W.putObj D o').heap[b]? = some x := by
  have : b ≠ D := by rintro rfl; rw [hK] at h; cases h; rw [ho] at hx; cases hx
  exact (World.putObj_heap_other this).trans h
theorem own_put {W : World} {D : Nat} {o' : Obj} {B e sz n : Nat} {v : Value} {xs : List Value} (h : W.ownsRow B e sz v n xs) (hK : W.heap[D]? = some (.deferred (some []))) : (W.putObj D o').ownsRow B e sz v n xs := by
  obtain ⟨h1, h2 | ⟨g, cap, cur, h3, h4, h5, h6⟩⟩ := h
  · exact ⟨h1, Or.inl h2⟩
  · exact ⟨h1, Or.inr ⟨g, cap, cur, h3, h4, heap_put hK rfl h5 rfl, h6⟩⟩
theorem below_put {A W : World} {D B : Nat} {o o' : Obj} (h : Below B A W) (_hK : W.heap[D]? = some o) (hD : B ≤ D) : Below B A (W.putObj D o') :=
  h.trans ⟨rfl, rfl, rfl, by simp, fun k hk => World.putObj_heap_other (by omega)⟩
theorem keep_blk {W W' : World} {row : Option Nat} {bl D b : Nat} {o : Obj} (hg : W.grownBy W' row) (hr : ∀ r, row = some r → r = bl ∨ r = D ∨ r = D + 1) (h : W.heap[b]? = some o) (h1 : b ≠ bl) (h2 : b ≠ D) (h3 : b ≠ D + 1) : W'.heap[b]? = some o := by
  have hlt : b < W.heap.size := by
    rcases Nat.lt_or_ge b W.heap.size with g | g
    · exact g
    · rw [Array.getElem?_eq_none g] at h; cases h
  exact (hg.block b hlt (fun e => by rcases hr b e.symm with h | h | h <;> omega)).trans h
theorem RdI.abd {w : World} {b3 bl D : Nat} (h1 : w.heap.size + 2 < b3) (h2 : b3 < bl) (h3 : bl < D) : Abd bl D (RdI w b3 D) := by
  rintro pre W W' row ⟨L, v, e1, e2, e3, hv, hown, hb, r0, r1, r2⟩ hg hr
  refine ⟨L, v, e1, e2, e3, keep_blk hg hr hv (by omega) (by omega) (by omega), ?_, hb.grown hg hb.size (fun k hk => by rcases hr k hk with h | h | h <;> omega), keep_blk hg hr r0 (by omega) (by omega) (by omega), keep_blk hg hr r1 (by omega) (by omega) (by omega), keep_blk hg hr r2 (by omega) (by omega) (by omega)⟩
  obtain ⟨g1, g2 | ⟨g, cap, cur, g3, g4, g5, g6⟩⟩ := hown
  · exact ⟨g1, Or.inl g2⟩
  · exact ⟨g1, Or.inr ⟨g, cap, cur, g3, g4, keep_blk hg hr g5 (by omega) (by omega) (by omega), g6⟩⟩
theorem RdX.abd {w : World} {T : List UInt8} {bl D : Nat} (h2 : w.heap.size + 2 < bl) (h3 : bl < D) : Abd bl D (RdX w T) := by
  rintro pre W W' row ⟨i, c, e1, hb, r0, r1, r2⟩ hg hr
  exact ⟨i, c, e1, hb.grown hg hb.size (fun k hk => by rcases hr k hk with h | h | h <;> omega), keep_blk hg hr r0 (by omega) (by omega) (by omega), keep_blk hg hr r1 (by omega) (by omega) (by omega), keep_blk hg hr r2 (by omega) (by omega) (by omega)⟩
theorem rdans_at {L : List Ev} {x : List UInt8} {T : List UInt8} {i c : Int} (he : ∀ e ∈ L, EvCode e 0) (hl : L.length ≤ 4000) (h : ∀ r, RdAns (x :: r) L [] i c) : ∀ r, (L.map lineB ++ [x]) ++ r = lns T → RdAns (lns T) [] [] i c := by
  intro r hr
  rw [← hr, List.append_assoc]
  exact RdAns_app (by rw [List.length_nil]; omega) he (h r)
theorem rd_stop {w W V : World} {T : List UInt8} {xs : List (List UInt8)} {bl D : Nat} {i c : Int} (h1 : w.heap.size + 2 < bl) (h2 : bl < D) (h3 : D + 2 ≤ W.heap.size) (hV : Below W.heap.size W V) (hb : Below w.heap.size w V)
    (r0 : V.heap[w.heap.size]? = some (.cells #[.slice none 0 0] 22 (0, 0))) (r1 : V.heap[w.heap.size + 1]? = some (.cells #[.int .i64 0] 3 (0, 0))) (r2 : V.heap[w.heap.size + 1 + 1]? = some (.cells #[.int .i64 0] 24 (0, 0))) (hA : ∀ r, xs ++ r = lns T → RdAns (lns T) [] [] i c) :
    Kq bl D W (((V.setCell ⟨w.heap.size, 0, none⟩ (.slice none 0 0)).setCell ⟨w.heap.size + 1, 0, none⟩ (.int .i64 i)).setCell ⟨w.heap.size + 1 + 1, 0, none⟩ (.int .i64 c)).drew ∧ RdX w T xs (((V.setCell ⟨w.heap.size, 0, none⟩ (.slice none 0 0)).setCell ⟨w.heap.size + 1, 0, none⟩ (.int .i64 i)).setCell ⟨w.heap.size + 1 + 1, 0, none⟩ (.int .i64 c)).drew := by
  have hk : ∀ b, b ≠ w.heap.size → b ≠ w.heap.size + 1 → b ≠ w.heap.size + 1 + 1 → (((V.setCell ⟨w.heap.size, 0, none⟩ (.slice none 0 0)).setCell ⟨w.heap.size + 1, 0, none⟩ (.int .i64 i)).setCell ⟨w.heap.size + 1 + 1, 0, none⟩ (.int .i64 c)).drew.heap[b]? = V.heap[b]? := fun b g1 g2 g3 =>
    (Below.heap_setCell _ _ _ _ g3).trans ((Below.heap_setCell _ _ _ _ g2).trans (Below.heap_setCell _ _ _ _ g1))
  refine ⟨⟨(hk _ (by omega) (by omega) (by omega)).trans (hV.block _ (by omega)), (hk _ (by omega) (by omega) (by omega)).trans (hV.block _ (by omega)), (hk _ (by omega) (by omega) (by omega)).trans (hV.block _ (by omega)), ?_⟩, i, c, hA, ?_, ?_, ?_, ?_⟩
  · show W.heap.size ≤ (((V.setCell ⟨w.heap.size, 0, none⟩ (.slice none 0 0)).setCell ⟨w.heap.size + 1, 0, none⟩ (.int .i64 i)).setCell ⟨w.heap.size + 1 + 1, 0, none⟩ (.int .i64 c)).heap.size
    simp; exact hV.size
  · exact (((hb.setCell (Nat.le_refl _) _).setCell (Nat.le_succ _) _).setCell (Nat.le_trans (Nat.le_succ _) (Nat.le_succ _)) _).drew
  · exact (Below.heap_setCell _ _ _ _ (by dsimp only; omega)).trans ((Below.heap_setCell _ _ _ _ (by dsimp only; omega)).trans (blk_set r0 _))
  · exact (Below.heap_setCell _ _ _ _ (by dsimp only; omega)).trans (blk_set ((Below.heap_setCell _ _ _ _ (by dsimp only; omega)).trans r1) _)
  · exact blk_set ((Below.heap_setCell _ _ _ _ (by dsimp only; omega)).trans ((Below.heap_setCell _ _ _ _ (by dsimp only; omega)).trans r2)) _
set_option maxHeartbeats 8000000 in
set_option maxRecDepth 100000 in
theorem prog_Read (T : List UInt8) (w : World) (hw : LnX w) : Calls Tryd.prog 9 #[.string ⟨T.toArray⟩] w (RdPost T w) := by
  refine (callsIn_wide (n := 6)).1 ?_
  refine callsIn_of_wp_marks Tryd.func9 rfl trivial ?_ rfl
  refine wpIn_wide.2 ?_
  simp only [Tryd.ntmps9, List.size_toArray, List.length_cons, List.length_nil, Nat.reduceAdd, Nat.reduceSub, Array.replicate_succ, Array.replicate_zero, List.push_toArray, List.append_toArray, List.nil_append, List.cons_append]
  by_cases hbig : 200000 < T.length
  · have hb' : (200000 : Int) < (T.length : Int) := by omega
    go_wp2
    refine ⟨.tuple #[.slice none 0 0, .int .i64 0, .int .i64 1], ?_, ?_⟩
    · simp [results, Tryd.results9, go_sem]
    · exact ⟨[], 0, 1, _, rfl, Or.inl ⟨hbig, rfl, rfl, rfl⟩, row_nil8 _, (by repeat (first | (with_reducible exact Below.refl _ _) | (with_reducible assumption) | (with_reducible refine Below.drew ?_) | (with_reducible refine Below_drewN ?_) | (with_reducible refine Below.alloc ?_ (by first | omega | (simp; done) | (simp; omega)) _) | (with_reducible refine Below.setCell ?_ (by first | omega | (simp; done) | (simp; omega)) _) | (with_reducible refine Below.trans ?_ (Below.mono (by assumption) (by first | omega | (simp; done) | (simp; omega))))))⟩
  · have hb' : ¬ (200000 : Int) < (T.length : Int) := by omega
    go_wp2_with (go_at_call 17; refine (prog_Lines _ _).mono ?_; rintro e w' ⟨rfl, rfl⟩)
    obtain ⟨W0, hW0⟩ : ∃ W0, W0 = ((((w.alloc (.cells #[.slice none 0 0] 22)).alloc (.cells #[.int .i64 0] 3)).alloc (.cells #[.int .i64 0] 24)).alloc (.cells #[.slice none 0 0] 22)).alloc (.cells #[.string ⟨T.toArray⟩] 9) := ⟨_, rfl⟩
    rw [← hW0]
    have hsz : W0.heap.size = w.heap.size + 1 + 1 + 1 + 1 + 1 := by rw [hW0]; simp
    have hB0 : Below w.heap.size w W0 := by rw [hW0]; exact (by repeat (first | (with_reducible exact Below.refl _ _) | (with_reducible assumption) | (with_reducible refine Below.drew ?_) | (with_reducible refine Below_drewN ?_) | (with_reducible refine Below.alloc ?_ (by first | omega | (simp; done) | (simp; omega)) _) | (with_reducible refine Below.setCell ?_ (by first | omega | (simp; done) | (simp; omega)) _) | (with_reducible refine Below.trans ?_ (Below.mono (by assumption) (by first | omega | (simp; done) | (simp; omega))))))
    have z0 : W0.heap[w.heap.size]? = some (.cells #[.slice none 0 0] 22 (0, 0)) := by rw [hW0]; exact (Below.heap_alloc _ _ _ (by first | omega | (simp; done) | (simp; omega))).trans ((Below.heap_alloc _ _ _ (by first | omega | (simp; done) | (simp; omega))).trans ((Below.heap_alloc _ _ _ (by first | omega | (simp; done) | (simp; omega))).trans ((Below.heap_alloc _ _ _ (by first | omega | (simp; done) | (simp; omega))).trans (heap_at _ rfl))))
    have z1 : W0.heap[w.heap.size + 1]? = some (.cells #[.int .i64 0] 3 (0, 0)) := by rw [hW0]; exact (Below.heap_alloc _ _ _ (by first | omega | (simp; done) | (simp; omega))).trans ((Below.heap_alloc _ _ _ (by first | omega | (simp; done) | (simp; omega))).trans ((Below.heap_alloc _ _ _ (by first | omega | (simp; done) | (simp; omega))).trans (heap_at _ (by first | omega | (simp; done) | (simp; omega)))))
    have z2 : W0.heap[w.heap.size + 1 + 1]? = some (.cells #[.int .i64 0] 24 (0, 0)) := by rw [hW0]; exact (Below.heap_alloc _ _ _ (by first | omega | (simp; done) | (simp; omega))).trans ((Below.heap_alloc _ _ _ (by first | omega | (simp; done) | (simp; omega))).trans (heap_at _ (by first | omega | (simp; done) | (simp; omega))))
    have z3 : W0.heap[w.heap.size + 1 + 1 + 1]? = some (.cells #[.slice none 0 0] 22 (0, 0)) := by rw [hW0]; exact (Below.heap_alloc _ _ _ (by first | omega | (simp; done) | (simp; omega))).trans (heap_at _ (by first | omega | (simp; done) | (simp; omega)))
    have z4 : W0.heap[w.heap.size + 1 + 1 + 1 + 1]? = some (.cells #[.string ⟨T.toArray⟩] 9 (0, 0)) := by rw [hW0]; exact heap_at _ (by first | omega | (simp; done) | (simp; omega))
    clear hW0
    refine (wpIn_wide (n := 6)).1 ?_
    refine range_lines (n := 6) (bl := w.heap.size + 1 + 1 + 1 + 1) (T := T) (by decide) rfl z4 rfl (lines1_in 5 (by decide) _ T (by omega)) (RdI w (w.heap.size + 1 + 1 + 1) W0.heap.size) (RdX w T) (RdI.abd (by omega) (by omega) (by omega)) (RdX.abd (by omega) (by omega)) ?start (fun x => { tmps := #[.string ⟨T.toArray⟩, undef, .pointer (some ⟨w.heap.size, 0, none⟩), .pointer (some ⟨w.heap.size + 1, 0, none⟩), .pointer (some ⟨w.heap.size + 1 + 1, 0, none⟩), .pointer (some ⟨w.heap.size + 1 + 1 + 1, 0, none⟩), .string ⟨x.toArray⟩, undef, .string ⟨T.toArray⟩, .int .i64 (T.length : Int), .bool false, .string ⟨T.toArray⟩, .func (.func 31) #[] #[.pointer (some ⟨w.heap.size + 1 + 1 + 1 + 1, 0, none⟩)], .string ⟨x.toArray⟩, undef, undef, undef, undef, undef, undef, undef, undef, undef, undef, undef, undef, undef, undef, undef, undef, undef, undef, undef, undef, undef, undef, undef], defers := [] }) ?assign ?body ?done ?stop
    case start => exact ⟨([] : List Ev), .slice none 0 0, rfl, (fun e h => absurd h (List.not_mem_nil)), Nat.zero_le _, z3, World.ownsRow_nil _ _ _ _, hB0, z0, z1, z2⟩
    case assign =>
      rintro l x W K' hK'
      gi_wp2
      exact hK'
    case body =>
      rintro l pre x W hsW ⟨L, v, rfl, hL, hl4, hv, hown, hb, r0, r1, r2⟩ hxl
      obtain ⟨av, cv, rfl, _⟩ := owns_shape hown
      obtain ⟨i0, hi, hz0, hz1, hz2⟩ := info_parts info_events
      have HL := Lib.hid hL
      have HV := Lib.hid hv
      have HOw := Lib.hid hown
      have HB := Lib.hid hb
      have R0 := Lib.hid r0
      have R1 := Lib.hid r1
      have R2 := Lib.hid r2
      have d5 := blk_cell hv 0
      have d5f := blk_free hv 0
      have d0 := blk_cell r0 0
      have d0f := blk_free r0 0
      have d1 := blk_cell r1 0
      have d1f := blk_free r1 0
      have d2 := blk_cell r2 0
      have d2f := blk_free r2 0
      simp at d5 d0 d1 d2
      clear hL hv hown hb r0 r1 r2
      have hxl2 : x.length ≤ 200000 := by omega
      have HSz := Lib.hid hsz
      have HsW := Lib.hid hsW
      clear hsz hsW z0 z1 z2 z3 z4 hB0
      by_cases h4 : L.length = 4000
      · have e4 : ((L.length : Int) == 4000) = true := by rw [beq_iff_eq]; omega
        have H4 := Lib.hid h4
        have hlw : (L.length : Int) = 4000 := by omega
        clear h4
        gi_wp2
        gi_region
        all_goals (try gi_wp2)
        all_goals exact rd_stop (by omega) (by have := HSz.out; omega) HsW.out (Below.refl _ _) HB.out R0.out R1.out R2.out (rdans_at HL.out hl4 fun r => Or.inl ⟨H4.out, rfl, rfl, rfl⟩)
      · have e4 : ((L.length : Int) == 4000) = false := by rw [beq_eq_false_iff_ne]; omega
        have H4 := Lib.hid h4
        clear h4
        have HEv := Lib.hid (prog_event (s := x) (hw.below HB.out) hxl2)
        obtain ⟨X, hX⟩ : ∃ X, X = evParse (spl (trimS x)) := ⟨_, rfl⟩
        rw [← hX] at HEv
        obtain ⟨c, hc⟩ := EvCode_total X
        have HX := Lib.hid hX
        have HC := Lib.hid hc
        clear hX hc
        obtain ⟨z0, z1, z2, z3, z4, z5, z6, z7⟩ := X
        simp only [Ev.cells] at HEv
        by_cases hc0 : c = 0
        · subst hc0
          gi_wp2_with (first | (refine ⟨trivial, ?_⟩; gi_at_call 18; refine (CallsIn.inRound l (callsIn_wide.2 HEv.out)).mono ?_; rintro e w1 ⟨rfl, hb1⟩; have B1 := Lib.hid hb1; clear hb1) | (refine ⟨trivial, ?_⟩; gi_at_call 11; refine (CallsIn.inRound l (callsIn_wide.2 (prog_WCheck z0 z1 z2 z3 z4 z5 z6 z7 0 _ HC.out))).mono ?_; rintro e w2 ⟨rfl, hb2⟩; have X2 := Lib.hid (blk_below hb2 (heap_at (w := w1) (.cells #[.int .i64 z0, .int .i64 z1, .int .i64 z2, .int .i64 z3, .bool z4, .int .i64 z5, .int .i64 z6, .int .i64 z7] 37) rfl) (by simp)); have B2 := Lib.hid (B1.out.trans (((Below.refl w1.heap.size w1).alloc (Nat.le_refl _) (.cells #[.int .i64 z0, .int .i64 z1, .int .i64 z2, .int .i64 z3, .bool z4, .int .i64 z5, .int .i64 z6, .int .i64 z7] 37)).trans (hb2.mono (by simp)) |>.mono B1.out.size)); clear hb2; have x0 := blk_cell X2.out 0; have x1 := blk_cell X2.out 1; have x2 := blk_cell X2.out 2; have x3 := blk_cell X2.out 3; have x4 := blk_cell X2.out 4; have x5 := blk_cell X2.out 5; have x6 := blk_cell X2.out 6; have x7 := blk_cell X2.out 7; simp at x0 x1 x2 x3 x4 x5 x6 x7; have m5 := (blk_cell (blk_below B2.out HV.out (lt_of_block HV.out)) 0); have m5f := (blk_free (blk_below B2.out HV.out (lt_of_block HV.out)) 0); have m0 := (blk_cell (blk_below B2.out R0.out (lt_of_block R0.out)) 0); have m0f := (blk_free (blk_below B2.out R0.out (lt_of_block R0.out)) 0); have m1 := (blk_cell (blk_below B2.out R1.out (lt_of_block R1.out)) 0); have m1f := (blk_free (blk_below B2.out R1.out (lt_of_block R1.out)) 0); have m2 := (blk_cell (blk_below B2.out R2.out (lt_of_block R2.out)) 0); have m2f := (blk_free (blk_below B2.out R2.out (lt_of_block R2.out)) 0); simp at m5 m0 m1 m2))
          have HLn := Lib.hid (prog_line HC.out ((hw.below (HB.out.trans (B2.out.mono HB.out.size))).ln))
          by_cases hle : lineB ⟨z0, z1, z2, z3, z4, z5, z6, z7⟩ = x
          · have HLe := Lib.hid hle
            rw [hle] at HLn
            clear hle
            refine ⟨trivial, ?_⟩
            refine (CallsIn.inRound l (callsIn_wide.2 HLn.out)).mono ?_
            rintro e w3 ⟨rfl, hb3⟩
            have X3 := Lib.hid (blk_below hb3 X2.out (lt_of_block X2.out))
            have B3 := Lib.hid (B2.out.trans (hb3.mono B2.out.size))
            clear hb3 x0 x1 x2 x3 x4 x5 x6 x7 m5 m5f m0 m0f m1 m1f m2 m2f
            have HO3 := Lib.hid (own_keep HOw.out B3.out)
            have m5 := blk_cell (blk_below B3.out HV.out (lt_of_block HV.out)) 0
            have m5f := blk_free (blk_below B3.out HV.out (lt_of_block HV.out)) 0
            have x0 := blk_cell X3.out 0
            have x1 := blk_cell X3.out 1
            have x2 := blk_cell X3.out 2
            have x3 := blk_cell X3.out 3
            have x4 := blk_cell X3.out 4
            have x5 := blk_cell X3.out 5
            have x6 := blk_cell X3.out 6
            have x7 := blk_cell X3.out 7
            simp at m5 x0 x1 x2 x3 x4 x5 x6 x7
            have h4l : L.length < 4000 := by have := H4.out; omega
            have hW3 := B3.out.size
            gi_wp2_with (gi_at_builtin; refine wpListIn_append_own _ rfl _ _ 22 rfl (W0.heap.size + 2) 37 i0 (.agg #[.int .i64 0, .int .i64 0, .int .i64 0, .int .i64 0, .bool false, .int .i64 0, .int .i64 0, .int .i64 0]) 8 64 Tryd.underlying22 hi hz0 hz1 hz2 rfl (by decide) _ _ _ rfl (HO3.out.alloc _) ⟨w3.heap.size, 0, none⟩ 1 1 (Ev.cells ⟨z0, z1, z2, z3, z4, z5, z6, z7⟩) rfl rfl (news_lit rfl (Ev.cells ⟨z0, z1, z2, z3, z4, z5, z6, z7⟩) 37) (by intro u hu; simp [Ev.cells] at hu; rcases hu with rfl | rfl | rfl | rfl | rfl | rfl | rfl | rfl <;> rfl) (by unfold maxLen; omega) (by omega) (by simp; have := HsW.out; omega) ?_; intro v6 w6 hown6 hgrow0 _; have hgrow : (w3.alloc (.cells #[.int .i64 z0, .int .i64 z1, .int .i64 z2, .int .i64 z3, .bool z4, .int .i64 z5, .int .i64 z6, .int .i64 z7] 37)).grownBy w6 (Value.slice av L.length cv).ownBlock := hgrow0; have hb6 := grown_below (B := W0.heap.size + 2) ((Below.refl w3.heap.size w3).alloc (Nat.le_refl _) _) (by have := HsW.out; omega) HO3.out hgrow; have e1 := blk_below hb6 (blk_below B3.out HV.out (lt_of_block HV.out)) (by have := lt_of_block HV.out; have := HSz.out; omega); have d6 := blk_cell e1 0; have f6 := blk_free e1 0; have HO6 := Lib.hid hown6; have HB6 := Lib.hid hb6; have HE6 := Lib.hid e1; obtain ⟨a6, c6, rfl, _⟩ := owns_shape hown6; clear hgrow hgrow0 hb6 hown6)
            have hS := HSz.out
            have hWs := HsW.out
            have hk6 : ∀ b, b < W0.heap.size + 2 → b ≠ w.heap.size + 1 + 1 + 1 → (w6.setCell ⟨w.heap.size + 1 + 1 + 1, 0, none⟩ (.slice a6 (L.length + 1) c6)).heap[b]? = W.heap[b]? := fun b g1 g2 =>
              (Below.heap_setCell _ _ _ _ g2).trans ((HB6.out.block b g1).trans (B3.out.block b (by omega)))
            have hz6 := HB6.out.size
            refine ⟨⟨hk6 _ (by omega) (by omega), hk6 _ (by omega) (by omega), hk6 _ (by omega) (by omega), by simp; omega⟩, L ++ [⟨z0, z1, z2, z3, z4, z5, z6, z7⟩], .slice a6 (L.length + 1) c6, by rw [List.map_append, List.map_singleton, HLe.out], fun e he => ?_, by rw [List.length_append, List.length_singleton]; omega, blk_set HE6.out _, ?_, ?_, (hk6 _ (by omega) (by omega)).trans R0.out, (hk6 _ (by omega) (by omega)).trans R1.out, (hk6 _ (by omega) (by omega)).trans R2.out⟩
            · rcases List.mem_append.1 he with h | h
              · exact HL.out e h
              · rw [List.mem_singleton] at h; subst h; exact HC.out
            · rw [List.length_append, List.map_append, List.flatten_append]
              exact own_set_ne HO6.out (by dsimp only; omega) _
            · exact (HB.out.trans ((B3.out.mono HB.out.size).trans (HB6.out.mono (by omega)))).setCell (by dsimp only; omega) _
          · obtain ⟨lb, hlb⟩ : ∃ l, l = lineB ⟨z0, z1, z2, z3, z4, z5, z6, z7⟩ := ⟨_, rfl⟩
            rw [← hlb] at HLn hle
            obtain ⟨n2, n3, n4, n5⟩ := str_ne hle
            have HLb := Lib.hid (show lineB ⟨z0, z1, z2, z3, z4, z5, z6, z7⟩ ≠ x by rw [← hlb]; exact hle)
            clear hlb hle
            refine ⟨trivial, ?_⟩
            refine (CallsIn.inRound l (callsIn_wide.2 HLn.out)).mono ?_
            rintro e w3 ⟨rfl, hb3⟩
            have B3 := Lib.hid (B2.out.trans (hb3.mono B2.out.size))
            clear hb3 x0 x1 x2 x3 x4 x5 x6 x7 m5 m5f m0 m0f m1 m1f m2 m2f
            have m5 := blk_cell (blk_below B3.out HV.out (lt_of_block HV.out)) 0
            have m5f := blk_free (blk_below B3.out HV.out (lt_of_block HV.out)) 0
            have m0 := blk_cell (blk_below B3.out R0.out (lt_of_block R0.out)) 0
            have m0f := blk_free (blk_below B3.out R0.out (lt_of_block R0.out)) 0
            have m1 := blk_cell (blk_below B3.out R1.out (lt_of_block R1.out)) 0
            have m1f := blk_free (blk_below B3.out R1.out (lt_of_block R1.out)) 0
            have m2 := blk_cell (blk_below B3.out R2.out (lt_of_block R2.out)) 0
            have m2f := blk_free (blk_below B3.out R2.out (lt_of_block R2.out)) 0
            simp at m5 m0 m1 m2
            gi_wp2_with fail
            gi_region
            all_goals (try gi_wp2)
            all_goals exact rd_stop (by omega) (by have := HSz.out; omega) HsW.out B3.out (HB.out.trans (B3.out.mono HB.out.size)) (blk_below B3.out R0.out (lt_of_block R0.out)) (blk_below B3.out R1.out (lt_of_block R1.out)) (blk_below B3.out R2.out (lt_of_block R2.out)) (rdans_at HL.out hl4 fun r => Or.inr (Or.inl ⟨by have := H4.out; omega, rd_bad (c := 0) (by rw [← HX.out]; exact HC.out) (Or.inr (by rw [← HX.out]; exact HLb.out)), rfl, rfl, rfl⟩))
        · have hcb : (c != 0) = true := by simpa using hc0
          gi_wp2_with (first | (refine ⟨trivial, ?_⟩; gi_at_call 18; refine (CallsIn.inRound l (callsIn_wide.2 HEv.out)).mono ?_; rintro e w1 ⟨rfl, hb1⟩; have B1 := Lib.hid hb1; clear hb1) | (refine ⟨trivial, ?_⟩; gi_at_call 11; refine (CallsIn.inRound l (callsIn_wide.2 (prog_WCheck z0 z1 z2 z3 z4 z5 z6 z7 c _ HC.out))).mono ?_; rintro e w2 ⟨rfl, hb2⟩; have X2 := Lib.hid (blk_below hb2 (heap_at (w := w1) (.cells #[.int .i64 z0, .int .i64 z1, .int .i64 z2, .int .i64 z3, .bool z4, .int .i64 z5, .int .i64 z6, .int .i64 z7] 37) rfl) (by simp)); have B2 := Lib.hid (B1.out.trans (((Below.refl w1.heap.size w1).alloc (Nat.le_refl _) (.cells #[.int .i64 z0, .int .i64 z1, .int .i64 z2, .int .i64 z3, .bool z4, .int .i64 z5, .int .i64 z6, .int .i64 z7] 37)).trans (hb2.mono (by simp)) |>.mono B1.out.size)); clear hb2; have x0 := blk_cell X2.out 0; have x1 := blk_cell X2.out 1; have x2 := blk_cell X2.out 2; have x3 := blk_cell X2.out 3; have x4 := blk_cell X2.out 4; have x5 := blk_cell X2.out 5; have x6 := blk_cell X2.out 6; have x7 := blk_cell X2.out 7; simp at x0 x1 x2 x3 x4 x5 x6 x7; have m5 := (blk_cell (blk_below B2.out HV.out (lt_of_block HV.out)) 0); have m5f := (blk_free (blk_below B2.out HV.out (lt_of_block HV.out)) 0); have m0 := (blk_cell (blk_below B2.out R0.out (lt_of_block R0.out)) 0); have m0f := (blk_free (blk_below B2.out R0.out (lt_of_block R0.out)) 0); have m1 := (blk_cell (blk_below B2.out R1.out (lt_of_block R1.out)) 0); have m1f := (blk_free (blk_below B2.out R1.out (lt_of_block R1.out)) 0); have m2 := (blk_cell (blk_below B2.out R2.out (lt_of_block R2.out)) 0); have m2f := (blk_free (blk_below B2.out R2.out (lt_of_block R2.out)) 0); simp at m5 m0 m1 m2))
          refine ⟨trivial, ?_⟩
          gi_wp2
          gi_region
          all_goals (try gi_wp2)
          all_goals exact rd_stop (by omega) (by have := HSz.out; omega) HsW.out B2.out (HB.out.trans (B2.out.mono HB.out.size)) (blk_below B2.out R0.out (lt_of_block R0.out)) (blk_below B2.out R1.out (lt_of_block R1.out)) (blk_below B2.out R2.out (lt_of_block R2.out)) (rdans_at HL.out hl4 fun r => Or.inr (Or.inl ⟨by have := H4.out; omega, rd_bad (c := c) (by rw [← HX.out]; exact HC.out) (Or.inl hc0), rfl, rfl, rfl⟩))
    case done =>
      rintro W ⟨L, v, e1, hL, hl4, hv, hown, hb, r0, r1, r2⟩ hK
      obtain ⟨av, cv, rfl, _⟩ := owns_shape hown
      have d5 := blk_cell hv 0
      have d5f := blk_free hv 0
      have d0 := blk_cell r0 0
      have d0f := blk_free r0 0
      have d1 := blk_cell r1 0
      have d1f := blk_free r1 0
      have d2 := blk_cell r2 0
      have d2f := blk_free r2 0
      simp at d5 d0 d1 d2
      go_wp2
      obtain ⟨V, hV⟩ : ∃ V, V = (((W.setCell ⟨w.heap.size, 0, none⟩ (.slice av L.length cv)).setCell ⟨w.heap.size + 1, 0, none⟩ (.int .i64 0)).setCell ⟨w.heap.size + 1 + 1, 0, none⟩ (.int .i64 0)) := ⟨_, rfl⟩
      rw [← hV]
      have hk : ∀ b, b ≠ w.heap.size → b ≠ w.heap.size + 1 → b ≠ w.heap.size + 1 + 1 → V.heap[b]? = W.heap[b]? := fun b g1 g2 g3 => by
        rw [hV]
        exact (Below.heap_setCell _ _ _ _ g3).trans ((Below.heap_setCell _ _ _ _ g2).trans (Below.heap_setCell _ _ _ _ g1))
      have k0 : V.heap[w.heap.size]? = some (.cells #[.slice av L.length cv] 22 (0, 0)) := by rw [hV]; exact (Below.heap_setCell _ _ _ _ (by dsimp only; omega)).trans ((Below.heap_setCell _ _ _ _ (by dsimp only; omega)).trans (blk_set r0 _))
      have k1 : V.heap[w.heap.size + 1]? = some (.cells #[.int .i64 0] 3 (0, 0)) := by rw [hV]; exact (Below.heap_setCell _ _ _ _ (by dsimp only; omega)).trans (blk_set ((Below.heap_setCell _ _ _ _ (by dsimp only; omega)).trans r1) _)
      have k2 : V.heap[w.heap.size + 1 + 1]? = some (.cells #[.int .i64 0] 24 (0, 0)) := by rw [hV]; exact blk_set ((Below.heap_setCell _ _ _ _ (by dsimp only; omega)).trans ((Below.heap_setCell _ _ _ _ (by dsimp only; omega)).trans r2)) _
      have hKV : V.heap[W0.heap.size]? = some (.deferred (some [])) := (hk _ (by omega) (by omega) (by omega)).trans hK
      have hbV : Below w.heap.size w V := by rw [hV]; exact ((hb.setCell (Nat.le_refl _) _).setCell (Nat.le_succ _) _).setCell (Nat.le_trans (Nat.le_succ _) (Nat.le_succ _)) _
      have hoV : V.ownsRow (W0.heap.size + 2) 37 8 (.slice av L.length cv) L.length ((L.map Ev.cells).flatten) := by
        obtain ⟨g1, g2 | ⟨g, cap, cur, g3, g4, g5, g6⟩⟩ := hown
        · exact ⟨g1, Or.inl g2⟩
        · exact ⟨g1, Or.inr ⟨g, cap, cur, g3, g4, (hk _ (by omega) (by omega) (by omega)).trans g5, g6⟩⟩
      have c0 : ∀ o, (V.putObj W0.heap.size o).cell? ⟨w.heap.size, 0, none⟩ = some (.slice av L.length cv) := fun o => blk_cell (heap_put hKV rfl k0 rfl) 0
      have c1 : ∀ o, (V.putObj W0.heap.size o).cell? ⟨w.heap.size + 1, 0, none⟩ = some (.int .i64 0) := fun o => blk_cell (heap_put hKV rfl k1 rfl) 0
      have c2 : ∀ o, (V.putObj W0.heap.size o).cell? ⟨w.heap.size + 1 + 1, 0, none⟩ = some (.int .i64 0) := fun o => blk_cell (heap_put hKV rfl k2 rfl) 0
      refine ⟨by simp, .inl ⟨_, _, rfl, run_takeDeferred hKV, ?_⟩⟩
      refine ⟨.tuple #[.slice av L.length cv, .int .i64 0, .int .i64 0], ?_, ?_⟩
      · simp [results, Tryd.results9, go_sem, c0, c1, c2]
      · refine ⟨L, 0, 0, _, rfl, Or.inr ⟨by omega, ?_⟩, RowAt_of_owns (own_put hoV hKV) (by simp) (len_events L), below_put hbV hKV (by omega)⟩
        rw [e1]
        have h := RdAns_app (xs := []) (acc := []) (r := L) (i := 0) (c := 0) (by rw [List.length_nil]; omega) hL ⟨rfl, rfl, rfl⟩
        rwa [List.append_nil] at h
    case stop =>
      rintro pre r W hpr ⟨i, c, hA, hb, r0, r1, r2⟩ hK
      gi_wp2
      have c0 : ∀ o, (W.putObj W0.heap.size o).cell? ⟨w.heap.size, 0, none⟩ = some (.slice none 0 0) := fun o => blk_cell (heap_put hK rfl r0 rfl) 0
      have c1 : ∀ o, (W.putObj W0.heap.size o).cell? ⟨w.heap.size + 1, 0, none⟩ = some (.int .i64 i) := fun o => blk_cell (heap_put hK rfl r1 rfl) 0
      have c2 : ∀ o, (W.putObj W0.heap.size o).cell? ⟨w.heap.size + 1 + 1, 0, none⟩ = some (.int .i64 c) := fun o => blk_cell (heap_put hK rfl r2 rfl) 0
      refine ⟨by simp, .inl ⟨_, _, rfl, run_takeDeferred hK, ?_⟩⟩
      refine ⟨.tuple #[.slice none 0 0, .int .i64 i, .int .i64 c], ?_, ?_⟩
      · simp [results, Tryd.results9, go_sem, c0, c1, c2]
      · exact ⟨[], i, c, _, rfl, Or.inr ⟨by omega, hA r hpr⟩, row_nil8 _, below_put hb hK (by omega)⟩
end Go.Proofs.YtnebijdifemicaaDoor

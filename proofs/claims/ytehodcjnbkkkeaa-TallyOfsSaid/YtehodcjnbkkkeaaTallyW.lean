/- The walk of TallyOfs. -/
import Derived.Test.YtehodcjnbkkkeaaTallied
import Derived.Test.YtehodcjnbkkkeaaCopyoutputs
import Derived.Test.YtehodcjnbkkkeaaSameOutputs
import Derived.ChangeKeysEq
namespace Go.Proofs.Ytehodcjnbkkkeaa
open Go.RowKit

theorem info_int : ∃ i, Try.prog.info? 3 = some i := by
  cases h : Try.prog.info? 3 with
  | none =>
    have : (Try.prog.info? 3).isSome = true := by kernel_rfl
    rw [h] at this; cases this
  | some i => exact ⟨i, rfl⟩
theorem cells_int : Try.prog.cellsOf 3 = 1 := by kernel_rfl
set_option maxRecDepth 100000 in
@[go_sem] theorem eqArr11 (w : World) (c0 c1 c2 c3 c4 c5 c6 c7 c8 c9 c10 : Int) : (Op.equalIn 9999 65 (.agg #[.int .i64 c0, .int .i64 c1, .int .i64 c2, .int .i64 c3, .int .i64 c4, .int .i64 c5, .int .i64 c6, .int .i64 c7, .int .i64 c8, .int .i64 c9, .int .i64 c10]) (.agg #[.int .i64 c0, .int .i64 c1, .int .i64 c2, .int .i64 c3, .int .i64 c4, .int .i64 c5, .int .i64 c6, .int .i64 c7, .int .i64 c8, .int .i64 c9, .int .i64 c10])).run Try.prog w = .ok true w := by
  obtain ⟨i, hi⟩ := info_int
  have h := run_equalIn_array (P := Try.prog) w 9998 #[.int .i64 c0, .int .i64 c1, .int .i64 c2, .int .i64 c3, .int .i64 c4, .int .i64 c5, .int .i64 c6, .int .i64 c7, .int .i64 c8, .int .i64 c9, .int .i64 c10] #[.int .i64 c0, .int .i64 c1, .int .i64 c2, .int .i64 c3, .int .i64 c4, .int .i64 c5, .int .i64 c6, .int .i64 c7, .int .i64 c8, .int .i64 c9, .int .i64 c10] Try.underlying65 hi
  rw [cells_int, show List.range 11 = [0, 1, 2, 3, 4, 5, 6, 7, 8, 9, 10] from rfl] at h
  refine h.trans ?_
  simp [Op.eqItems, go_sem, part, sizeOf, typeInfo, hi]

set_option maxRecDepth 100000 in
@[go_sem] theorem eqArr6 (w : World) (c0 c1 c2 c3 c4 c5 : Int) : (Op.equalIn 9999 66 (.agg #[.int .i64 c0, .int .i64 c1, .int .i64 c2, .int .i64 c3, .int .i64 c4, .int .i64 c5]) (.agg #[.int .i64 c0, .int .i64 c1, .int .i64 c2, .int .i64 c3, .int .i64 c4, .int .i64 c5])).run Try.prog w = .ok true w := by
  obtain ⟨i, hi⟩ := info_int
  have h := run_equalIn_array (P := Try.prog) w 9998 #[.int .i64 c0, .int .i64 c1, .int .i64 c2, .int .i64 c3, .int .i64 c4, .int .i64 c5] #[.int .i64 c0, .int .i64 c1, .int .i64 c2, .int .i64 c3, .int .i64 c4, .int .i64 c5] Try.underlying66 hi
  rw [cells_int, show List.range 6 = [0, 1, 2, 3, 4, 5] from rfl] at h
  refine h.trans ?_
  simp [Op.eqItems, go_sem, part, sizeOf, typeInfo, hi]

theorem fits_or (X : List Out) : (∀ x ∈ X, Fits x) ∨ (∃ x ∈ X, ¬ Fits x) := by
  by_cases h : ∀ x ∈ X, Fits x
  · exact Or.inl h
  · right
    simpa using h

theorem eqTal (w : World) (X : List Out) : (Op.equalIn 10000 68 (.agg (talV X)) (.agg (talV X))).run Try.prog w = .ok true w := by
  rw [talV_lit]
  simp [go_sem]

set_option maxHeartbeats 4000000 in
set_option maxRecDepth 100000 in
theorem tally_walk (X Y : List Out) (code : Int) (v0 : Value) (W : World) (r : RowAt W 7 v0 (X.map Out.cells)) (hn : X.length * 56 ≤ 140737488351232)
    (h1 : ∀ (v : Value) (w : World), RowAt w 7 v (X.map Out.cells) → Calls Try.prog 46 #[v] w fun e w' => e = .returned (.tuple #[.agg (talV Y), .int .i64 code]) ∧ Below w.heap.size w w')
    (h2 : ∀ (v : Value) (w : World), RowAt w 7 v (X.map Out.cells) → Calls Try.prog 47 #[v] w fun e w' => e = .returned (.tuple #[.agg (talV Y), .int .i64 code]) ∧ Below w.heap.size w w') :
    Calls Try.prog 15 #[v0] W fun e w' => e = .returned (.bool true) ∧ Below W.heap.size W w' := by
  obtain ⟨a, c, rfl, _⟩ := RowAt_shape r
  have HN := Lib.hid hn
  have H1 := Lib.hid h1
  have H2 := Lib.hid h2
  have hq := fun w => eqTal w Y
  clear hn h1 h2
  go_enter Try.func15, Try.ntmps15
  go_wp2_with fail
  refine (outputs_copy _ X _ r HN.out).mono ?_
  rintro e w1 ⟨v1, rfl, R1, hb1⟩
  obtain ⟨a1, c1, rfl, _⟩ := RowAt_shape R1
  have r1 := RowAt_below r hb1
  clear r
  go_wp2_with fail
  refine (H1.out _ _ R1).mono ?_
  rintro e w2 ⟨rfl, hb2⟩
  have r2 := Lib.hid (RowAt_below r1 hb2)
  have R2 := Lib.hid (RowAt_below R1 hb2)
  have B2 := Lib.hid (hb1.trans (hb2.mono hb1.size))
  have S2 := Lib.hid (Nat.le_trans hb1.size hb2.size)
  clear r1 R1 hb1 hb2
  have hA : ∀ (w : World) (arr : Array Value), Below w.heap.size w ((w.alloc (.cells #[.int .i64 0, .int .i64 0, .int .i64 0, .int .i64 0, .int .i64 0, .int .i64 0, .int .i64 0, .int .i64 0, .int .i64 0, .int .i64 0, .int .i64 0, .int .i64 0, .int .i64 0, .int .i64 0, .int .i64 0, .int .i64 0, .int .i64 0] 68)).setRow w.heap.size arr) := fun w arr => setRow_below ((Below.refl _ _).alloc (Nat.le_refl _) _) (Nat.le_refl _)
  have HA := Lib.hid hA
  clear hA
  go_wp2_with (refine wpList_store_row rfl 68 (.tmp 4) (.tmp 13) rfl w2.heap.size (talV Y) rfl rfl 68 (talV []) (heap_at _ rfl) (by kernel_rfl) rfl (one_talV Y) ?_)
  refine (H2.out _ _ (RowAt_below r2.out (HA.out w2 (talV Y)))).mono ?_
  rintro e w3 ⟨rfl, hb3⟩
  have hs3 := hb3.size
  have B3' := (HA.out w2 (talV Y)).trans (hb3.mono (by simp))
  have g4 : w3.heap[w2.heap.size]? = some (.cells (talV Y) 68 (0, 0)) := (hb3.block _ (by simp)).trans (setRow_block (heap_at _ rfl))
  have g4b : ((w3.alloc (.cells #[.int .i64 0, .int .i64 0, .int .i64 0, .int .i64 0, .int .i64 0, .int .i64 0, .int .i64 0, .int .i64 0, .int .i64 0, .int .i64 0, .int .i64 0, .int .i64 0, .int .i64 0, .int .i64 0, .int .i64 0, .int .i64 0, .int .i64 0] 68)).setRow w3.heap.size (talV Y)).heap[w2.heap.size]? = some (.cells (talV Y) 68 (0, 0)) := ((HA.out w3 (talV Y)).block _ (by simp at hs3; omega)).trans g4
  have g6b : ((w3.alloc (.cells #[.int .i64 0, .int .i64 0, .int .i64 0, .int .i64 0, .int .i64 0, .int .i64 0, .int .i64 0, .int .i64 0, .int .i64 0, .int .i64 0, .int .i64 0, .int .i64 0, .int .i64 0, .int .i64 0, .int .i64 0, .int .i64 0, .int .i64 0] 68)).setRow w3.heap.size (talV Y)).heap[w3.heap.size]? = some (.cells (talV Y) 68 (0, 0)) := setRow_block (heap_at _ rfl)
  have r3 := Lib.hid (RowAt_below (RowAt_below r2.out B3') (HA.out w3 (talV Y)))
  have R3 := Lib.hid (RowAt_below (RowAt_below R2.out B3') (HA.out w3 (talV Y)))
  have B3 := Lib.hid ((B2.out.trans (B3'.mono S2.out)).trans ((HA.out w3 (talV Y)).mono (Nat.le_trans S2.out B3'.size)))
  have S3 := Lib.hid (Nat.le_trans (Nat.le_trans S2.out B3'.size) (HA.out w3 (talV Y)).size)
  have G4 := Lib.hid g4b
  have G6 := Lib.hid g6b
  clear hs3 B3' g4 g4b g6b hb3 r2 R2 B2 S2
  go_wp2_with (first | (refine wpList_store_row rfl 68 (.tmp 6) (.tmp 18) rfl w3.heap.size (talV Y) rfl rfl 68 (talV []) (heap_at _ rfl) (by kernel_rfl) rfl (one_talV Y) ?_) | (refine wpList_load_row rfl 68 (.tmp 4) rfl w2.heap.size rfl _ (talV Y) (0, 0) _ G4.out Try.underlying68 rfl (by kernel_rfl) ?_) | (refine wpList_load_row rfl 68 (.tmp 6) rfl w3.heap.size rfl _ (talV Y) (0, 0) _ G6.out Try.underlying68 rfl (by kernel_rfl) ?_))
  refine (sameOutputs_yes _ _ X _ R3.out r3.out).mono ?_
  rintro e w4 ⟨rfl, hb4⟩
  have B4 := B3.out.trans (hb4.mono S3.out)
  clear hb4 r3 R3 B3 S3 G4 G6
  go_wp2
  go_ret
  exact ⟨rfl, B4⟩

theorem walk_TallyOfs (v0 : Value) (W : World) (o0 : Is_sl_Output W v0) :
    Calls Try.prog 15 #[v0] W fun e w' => e = .returned (.bool true) ∧ Below W.heap.size W w' := by
  obtain ⟨X, r, _, hn⟩ := o0
  rcases fits_or X with hf | hf
  · exact tally_walk X X 0 v0 W r hn (fun v w r => prog_Of_ok v X w r hn hf) (fun v w r => ref_Tallied_ok v X w r hn hf)
  · exact tally_walk X [] 5 v0 W r hn (fun v w r => prog_Of_bad v X w r hn hf) (fun v w r => ref_Tallied_bad v X w r hn hf)
end Go.Proofs.Ytehodcjnbkkkeaa

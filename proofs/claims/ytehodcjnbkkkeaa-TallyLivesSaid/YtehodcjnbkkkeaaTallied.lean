/- usherref.Tallied: its contract. -/
import Derived.Test.YtehodcjnbkkkeaaTallyRef
namespace Go.Proofs.Ytehodcjnbkkkeaa
open Go.RowKit

/-- Block b holds the counts of X up to place m, and noughts from there on. -/
def IsPart (w : World) (b : Nat) (X : List Out) (m : Nat) : Prop := ∃ (arr : Array Value) (T : TypeId), w.heap[b]? = some (.cells arr T (0, 0)) ∧ arr.size = 17 ∧ ∀ j, j < 17 → arr[j]? = some (.int .i64 (if j < m then cnt X j else 0 : Nat))
theorem IsPart.tal {w : World} {b : Nat} {X : List Out} (h : IsPart w b X 17) : IsTal w b X := by
  obtain ⟨arr, T, h1, h2, h3⟩ := h
  exact ⟨arr, T, h1, h2, fun j hj => by rw [h3 j hj, if_pos hj]⟩
theorem IsPart.lt {w : World} {b m : Nat} {X : List Out} (h : IsPart w b X m) : b < w.heap.size := by
  obtain ⟨arr, T, h1, _⟩ := h; exact lt_of_block h1
theorem IsPart.some {w : World} {b m : Nat} {X : List Out} (h : IsPart w b X m) {j : Nat} (hj : j < 17) : ∃ n : Int, w.cell? ⟨b, j, none⟩ = some (.int .i64 n) := by
  obtain ⟨arr, T, h1, h2, h3⟩ := h
  exact ⟨_, by simp [World.cell?, h1, h3 j hj]; rfl⟩
theorem IsPart.free {w : World} {b m : Nat} {X : List Out} (h : IsPart w b X m) (j : Nat) : w.frozen? ⟨b, j, none⟩ = false := by
  obtain ⟨arr, T, h1, _⟩ := h
  simp [World.frozen?, h1]
theorem IsPart.step {w : World} {b m : Nat} {X : List Out} (h : IsPart w b X m) (hm : m < 17) (c : Nat) (hc : c = cnt X m) : IsPart (w.setCell ⟨b, m, none⟩ (.int .i64 c)) b X (m + 1) := by
  obtain ⟨arr, T, g1, g2, g3⟩ := h
  refine ⟨_, T, blk_setCell g1 _, by simpa using g2, fun j hj => ?_⟩
  rw [Array.getElem?_setIfInBounds]
  by_cases hj2 : m = j
  · subst hj2
    rw [if_pos rfl, if_pos (by omega), if_pos (by omega), hc]
  · rw [if_neg hj2, g3 j hj]
    by_cases hlt : j < m
    · rw [if_pos hlt, if_pos (by omega)]
    · rw [if_neg hlt, if_neg (by omega)]
theorem cnt_zero {X : List Out} (h : ∀ x ∈ X, Fits x) : cnt X 0 = 0 := by
  unfold cnt
  rw [List.countP_eq_zero]
  intro x hx
  have := (h x hx).1
  unfold cntP
  simp; omega
theorem cnt_kp (X : List Out) (k : Nat) (h : k ≤ 10) : X.countP (kp k (-1)) = cnt X k := by
  unfold cnt
  apply List.countP_congr
  intro x _
  unfold kp cntP
  rw [if_pos (by omega)]
  simp
theorem cnt_kp6 (X : List Out) (y : Nat) : X.countP (kp 6 y) = cnt X (11 + y) := by
  unfold cnt
  apply List.countP_congr
  intro x _
  unfold kp cntP
  rw [if_neg (by omega)]
  simp; omega
theorem IsPart.one {w : World} {T : TypeId} {X : List Out} (h : ∀ x ∈ X, Fits x) : IsPart (w.alloc (.cells #[.int .i64 0, .int .i64 0, .int .i64 0, .int .i64 0, .int .i64 0, .int .i64 0, .int .i64 0, .int .i64 0, .int .i64 0, .int .i64 0, .int .i64 0, .int .i64 0, .int .i64 0, .int .i64 0, .int .i64 0, .int .i64 0, .int .i64 0] T)) w.heap.size X 1 := by
  refine ⟨_, T, heap_at _ rfl, rfl, fun j hj => ?_⟩
  have e : ((if j < 1 then cnt X j else 0 : Nat) : Int) = 0 := by
    by_cases hj1 : j < 1
    · rw [if_pos hj1, show j = 0 by omega, cnt_zero h]; rfl
    · rw [if_neg hj1]; rfl
  rw [e]
  rcases (show j = 0 ∨ j = 1 ∨ j = 2 ∨ j = 3 ∨ j = 4 ∨ j = 5 ∨ j = 6 ∨ j = 7 ∨ j = 8 ∨ j = 9 ∨ j = 10 ∨ j = 11 ∨ j = 12 ∨ j = 13 ∨ j = 14 ∨ j = 15 ∨ j = 16 by omega) with rfl | rfl | rfl | rfl | rfl | rfl | rfl | rfl | rfl | rfl | rfl | rfl | rfl | rfl | rfl | rfl | rfl <;> rfl

/-- What holds at the heads of Tallied's loops. -/
def TadRel (w wr : World) (X : List Out) (m : Nat) : Prop := Below w.heap.size w wr ∧ (∃ T, wr.heap[w.heap.size]? = some (.cells (talV []) T (0, 0))) ∧ IsPart wr (w.heap.size + 1) X m

set_option maxHeartbeats 4000000 in
set_option maxRecDepth 100000 in
theorem ref_Tallied_ok (v : Value) (X : List Out) (w : World) (r : RowAt w 7 v (X.map Out.cells)) (hn : X.length * 56 ≤ 140737488351232) (hf : ∀ x ∈ X, Fits x) :
    Calls Try.prog 47 #[v] w fun e w' => e = .returned (.tuple #[.agg (talV X), .int .i64 0]) ∧ Below w.heap.size w w' := by
  obtain ⟨a, c, rfl, _⟩ := RowAt_shape r
  have R := Lib.hid r
  have HF := Lib.hid hf
  have HN := Lib.hid hn
  clear r hf hn
  go_enter Try.func47, Try.ntmps47
  go_wp2_with fail
  refine (tallyFault_ok _ X _ (RowAt_alloc R.out _) HN.out HF.out).mono ?_
  rintro e w1 ⟨rfl, rfl⟩
  go_wp2
  go_loopw [6] (fun i wr => ∃ k : Nat, 1 ≤ k ∧ k ≤ 11 ∧ i = .int .i64 k ∧ TadRel w wr X k) (fun i _ => 11 - (intOf i).toNat)
  case atStart =>
    refine ⟨1, by omega, by omega, rfl, ((Below.refl _ _).alloc (Nat.le_refl _) _).alloc (by simp) _, ⟨_, (Below.heap_alloc _ _ _ (by simp)).trans (heap_at _ rfl)⟩, ?_⟩
    have := IsPart.one (w := w.alloc (.cells #[.int .i64 0, .int .i64 0, .int .i64 0, .int .i64 0, .int .i64 0, .int .i64 0, .int .i64 0, .int .i64 0, .int .i64 0, .int .i64 0, .int .i64 0, .int .i64 0, .int .i64 0, .int .i64 0, .int .i64 0, .int .i64 0, .int .i64 0] 68)) (T := 68) (X := X) HF.out
    simpa using this
  case round =>
    obtain ⟨k, hk1, hk2, rfl, hbel, hres, hpart⟩ := hrel
    rcases (show k < 11 ∨ 11 = k by omega) with hlt | heq
    · have hlt' : (k : Int) ≤ 10 := by omega
      obtain ⟨n, hcell⟩ := hpart.some (j := k) (by omega)
      have hfree := hpart.free k
      have hl := hpart.lt
      have HB := Lib.hid hbel
      have HR := Lib.hid hres
      have HP := Lib.hid hpart
      clear hbel hres hpart
      go_wp2_with fail
      refine (countKind_any _ X _ _ _ (RowAt_below R.out HB.out) HN.out).mono ?_
      rintro e w1 ⟨rfl, rfl⟩
      go_wp2
      go_roundw
      case rel =>
        obtain ⟨T, g⟩ := HR.out
        exact ⟨k + 1, by omega, by omega, by go_num, HB.out.setCell (by simp) _, ⟨T, (Below.heap_setCell _ _ _ _ (by simp)).trans g⟩, HP.out.step (by omega) _ (cnt_kp X k (by omega))⟩
      case measure => simp [intOf]; omega
    · have hge : (11 : Int) ≤ (k : Int) := by omega
      have HB := Lib.hid hbel
      have HR := Lib.hid hres
      have HP := Lib.hid (show IsPart wr (w.heap.size + 1) X 11 by rw [heq]; exact hpart)
      clear hbel hres hpart heq
      go_wp2
      go_loopw [7] (fun i wr => ∃ k : Nat, k ≤ 6 ∧ i = .int .i64 k ∧ TadRel w wr X (11 + k)) (fun i _ => 6 - (intOf i).toNat)
      case atStart => exact ⟨0, by omega, rfl, HB.out, HR.out, HP.out⟩
      case round =>
        clear HB HR HP
        obtain ⟨k, hk2, rfl, hbel, hres, hpart⟩ := hrel
        rcases (show k < 6 ∨ k = 6 by omega) with hlt | rfl
        · have hlt' : (k : Int) ≤ 5 := by omega
          obtain ⟨n, hcell⟩ := hpart.some (j := 11 + k) (by omega)
          have hfree := hpart.free (11 + k)
          have hl := hpart.lt
          have HB := Lib.hid hbel
          have HR := Lib.hid hres
          have HP := Lib.hid hpart
          clear hbel hres hpart
          go_wp2_with fail
          refine (countKind_any _ X _ _ _ (RowAt_below R.out HB.out) HN.out).mono ?_
          rintro e w1 ⟨rfl, rfl⟩
          go_wp2
          go_roundw
          case rel =>
            obtain ⟨T, g⟩ := HR.out
            exact ⟨k + 1, by omega, by go_num, HB.out.setCell (by simp) _, ⟨T, (Below.heap_setCell _ _ _ _ (by simp)).trans g⟩, HP.out.step (by omega) _ (cnt_kp6 X k)⟩
          case measure => simp [intOf]; omega
        · obtain ⟨T1, g1⟩ := (IsPart.tal hpart).block
          obtain ⟨T0, g0⟩ := hres
          have HB := Lib.hid hbel
          have G1 := Lib.hid g1
          have G0 := Lib.hid g0
          clear hbel hpart g1 g0
          go_wp2_with (first | (refine wpList_load_row rfl 68 (.tmp 5) rfl (w.heap.size + 1) rfl T1 (talV X) (0, 0) _ G1.out Try.underlying68 rfl (by kernel_rfl) ?_) | (refine wpList_store_row rfl 68 (.tmp 2) (.tmp 34) rfl w.heap.size (talV X) rfl rfl T0 (talV []) G0.out (by kernel_rfl) rfl (one_talV X) ?_))
          refine bodyPost_ret (v := .tuple #[.agg (talV X), .int .i64 0]) ?_ rfl ?_
          · exact results2_cell_row Try.results47 _ _ w.heap.size T0 (talV X) (0, 0) _ _ rfl rfl (setRow_block G0.out) Try.underlying68 rfl (by kernel_rfl)
          · exact ⟨rfl, setRow_below HB.out (Nat.le_refl _)⟩

set_option maxHeartbeats 4000000 in
set_option maxRecDepth 100000 in
theorem ref_Tallied_bad (v : Value) (X : List Out) (w : World) (r : RowAt w 7 v (X.map Out.cells)) (hn : X.length * 56 ≤ 140737488351232) (hf : ∃ x ∈ X, ¬ Fits x) :
    Calls Try.prog 47 #[v] w fun e w' => e = .returned (.tuple #[.agg (talV []), .int .i64 5]) ∧ Below w.heap.size w w' := by
  obtain ⟨a, c, rfl, _⟩ := RowAt_shape r
  have R := Lib.hid r
  have HF := Lib.hid hf
  have HN := Lib.hid hn
  clear r hf hn
  have G0 := Lib.hid (show (w.alloc (.cells (talV []) 68)).heap[w.heap.size]? = some (.cells (talV []) 68 (0, 0)) from heap_at _ rfl)
  go_enter Try.func47, Try.ntmps47
  go_wp2_with fail
  refine (tallyFault_bad _ X _ (RowAt_alloc R.out _) HN.out HF.out).mono ?_
  rintro e w1 ⟨rfl, rfl⟩
  go_wp2_with (refine wpList_store_row rfl 68 (.tmp 2) (.tmp 12) rfl w.heap.size (talV []) rfl rfl _ (talV []) G0.out (by kernel_rfl) rfl (one_talV []) ?_)
  refine bodyPost_ret (v := .tuple #[.agg (talV []), .int .i64 5]) ?_ rfl ?_
  · exact results2_cell_row Try.results47 _ _ w.heap.size _ (talV []) (0, 0) _ _ rfl rfl (setRow_block G0.out) Try.underlying68 rfl (by kernel_rfl)
  · exact ⟨rfl, setRow_below ((Below.refl _ _).alloc (Nat.le_refl _) _) (Nat.le_refl _)⟩
end Go.Proofs.Ytehodcjnbkkkeaa
